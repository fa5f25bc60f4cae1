/-
 A part of the proofs over this program: rules and contracts of its functions (the contracts).
-/
import Derived.Test.YtgkalkgplcdnkaaGreatW4A07
import Derived.Test.YtgkalkgplcdnkaaGreatRows
set_option linter.unusedVariables false
set_option linter.unusedSimpArgs false
set_option maxHeartbeats 8000000
set_option maxRecDepth 4000
attribute [local irreducible] Go.AL.RW Go.AL.AW Go.AL.Stop
namespace Go.Proofs.YtgkalkgplcdnkaaGreat
open Go.AL
theorem qL (a b c:Int):PC Tryz.prog 55 [iv a,iv b,iv c] (fun r => r = bv (decide (b ≤ a) && decide (a ≤ c))):=by
 refine aD Tryz.func55 Tryz.ntmps55 ?_
 repeat' (first|refine aB ?_|(refine dB ?_ ?_ <;> intro hg hq <;> try (exfalso;omega))|refine dG ?_|fail)
 all_goals (refine ⟨?_,rfl⟩; simp only [aR,AV.v.injEq,Value.bool.injEq,Value.int.injEq,true_and])
 all_goals grind
theorem vY (t:Int):PC Tryz.prog 185 [iv t] (fun r => r = bv (iI t)):=by
 refine aD Tryz.func185 Tryz.ntmps185 ?_
 repeat' (first|refine aB ?_|(refine dB ?_ ?_ <;> intro hg hq <;> try (exfalso;omega))|refine dG ?_|fail)
 all_goals (refine ⟨?_,rfl⟩; simp only [aR,AV.v.injEq,Value.bool.injEq,Value.int.injEq,true_and])
 all_goals grind [iI]
theorem D2 (t:Int):PC Tryz.prog 181 [iv t] (fun r => r = bv (iI t)):=by
 refine aD Tryz.func181 Tryz.ntmps181 ?_
 repeat' (first|refine aB ?_|(refine dB ?_ ?_ <;> intro hg hq <;> try (exfalso;omega))|refine dG ?_|fail)
 all_goals (refine ⟨?_,rfl⟩; simp only [aR,AV.v.injEq,Value.bool.injEq,Value.int.injEq,true_and])
 all_goals grind [iI]
theorem z6 (t:Int):PC Tryz.prog 210 [iv t] (fun r => r = bv (decide (t = 2) || iI t)):=by
 refine aD Tryz.func210 Tryz.ntmps210 ?_
 repeat' (first|(apply aH;(apply aA (k := 185);rfl;(apply vY);(rfl);rfl))|refine aB ?_|(refine dB ?_ ?_ <;> intro hg hq <;> try (exfalso;omega))|refine dG ?_|fail)
 all_goals (refine ⟨?_,rfl⟩; simp only [aR,AV.v.injEq,Value.bool.injEq,Value.int.injEq,true_and])
 all_goals grind
theorem Ac (t:Int):PC Tryz.prog 174 [iv t] (fun r => r = bv (decide (t = 9) || decide (t = 10))):=by
 refine aD Tryz.func174 Tryz.ntmps174 ?_
 repeat' (first|refine aB ?_|(refine dB ?_ ?_ <;> intro hg hq <;> try (exfalso;omega))|refine dG ?_|fail)
 all_goals (refine ⟨?_,rfl⟩; simp only [aR,AV.v.injEq,Value.bool.injEq,Value.int.injEq,true_and])
 all_goals grind
theorem D8 (ts:List Int) (v:Int):PC Tryz.prog 209 [sl cI ts,iv v] (fun r => r = iv (iB ts v)):=by
 refine aD Tryz.func209 Tryz.ntmps209 ?_
 repeat' (first|refine aB ?_|(refine aV ?_ ?_ <;> intro hc hq <;> try (exfalso;omega))|(refine dB ?_ ?_ <;> intro hg hq <;> try (exfalso;omega))|refine dG ?_|fail)
 all_goals (refine ⟨?_,rfl⟩; simp only [aR,AV.v.injEq,Value.bool.injEq,Value.int.injEq,true_and])
 all_goals grind [iB]
theorem Fc (ts:List Int) (v:Int) (hl:ts.length ≤ 1048576):PC Tryz.prog 56 [sl cI ts,iv v] (fun r => r = iv (iB ts v)):=by
 refine aD Tryz.func56 Tryz.ntmps56 ?_
 repeat' (first|(apply aH;(apply aA (k := 55);rfl;(apply qL);(rfl);rfl))|refine aB ?_|(refine aV ?_ ?_ <;> intro hc hq <;> try (exfalso;omega))|refine dG ?_|fail)
 all_goals (refine ⟨?_,rfl⟩; simp only [aR,AV.v.injEq,Value.bool.injEq,Value.int.injEq,true_and])
 all_goals grind [iB]
theorem zK (ts:List Int) (s:AL.Stmt) (hl:bV ts = true):PC Tryz.prog 175 [sl cI ts,cE s] (fun r => r = bv (s.th.isEmpty && s.el.isEmpty && fE ts s)):=by
 have hl2 := fV hl
 have hx := gN hl s.x
 have hy := gN hl s.y
 refine aD Tryz.func175 Tryz.ntmps175 ?_
 repeat' (first|(apply aH;(first|(apply aA (k := 55);rfl;(apply qL);(rfl);rfl)|(apply aA (k := 56);rfl;(apply Fc <;> (omega));exact Pur.pf;rfl)|(apply aA (k := 210);rfl;(apply z6);(rfl);rfl)))|refine aB ?_|(refine aV ?_ ?_ <;> intro hc hq <;> try (exfalso;omega))|(refine dB ?_ ?_ <;> intro hg hq <;> try (exfalso;omega))|refine dH ?_|refine dG ?_|fail)
 all_goals (refine ⟨?_,rfl⟩; simp only [aR,AV.v.injEq,Value.bool.injEq,Value.int.injEq,true_and])
 all_goals (cases hth : s.th <;> cases hel : s.el <;> simp only [hth,hel,List.length_nil,List.length_cons,List.isEmpty_nil,List.isEmpty_cons,Bool.true_and,Bool.false_and] at *)
 all_goals (try unfold fE)
 all_goals (try simp only [iI,Bool.or_eq_true,Bool.or_eq_false_iff,decide_eq_true_eq,decide_eq_false_iff_not] at *)
 all_goals grind
theorem AD (ts:List Int) (s:AL.Stmt) (hl:bV ts = true):PC Tryz.prog 170 [sl cI ts,cE s] (fun r => r = bv (fE ts s)):=by
 have hl2 := fV hl
 have hx := gN hl s.x
 have hy := gN hl s.y
 refine aD Tryz.func170 Tryz.ntmps170 ?_
 repeat' (first|(apply aH;(apply aA (k := 209);rfl;(apply D8);exact Pur.pf;rfl))|refine aB ?_|(refine aV ?_ ?_ <;> intro hc hq <;> try (exfalso;omega))|(refine dB ?_ ?_ <;> intro hg hq <;> try (exfalso;omega))|refine dG ?_|fail)
 all_goals (refine ⟨?_,rfl⟩; simp only [aR,AV.v.injEq,Value.bool.injEq,Value.int.injEq,true_and])
 all_goals (try unfold fE)
 all_goals grind
theorem CG (ts:List Int) (hl:bV ts = true) (m:Nat) (ih:∀ l (d:Int),aJ l < m → 0 ≤ d → d ≤ 1000 → PC Tryz.prog 85 [sl cI ts,sl aF l,iv d] (fun r => r = bv (okL ts d.toNat l))) (s:AL.Stmt) (d:Int) (hs:cM s ≤ m) (hd0:0 ≤ d) (hd:d ≤ 1000) :
  PC Tryz.prog 134 [sl cI ts,cE s,iv d] (fun r => r = bv (sQ ts d.toNat s)) := by
 rw [HC ts d hd0]
 refine aD Tryz.func134 Tryz.ntmps134 ?_
 repeat' (first|(apply aH;(first|(apply aA (k := 85);rfl;(apply ih <;> (first|omega|(have := eH s;omega)));exact Pur.pf;rfl)|(apply aA (k := 170);rfl;(apply AD <;> (assumption));exact Pur.pf;rfl)))|refine aB ?_|(refine aV ?_ ?_ <;> intro hc hq <;> try (exfalso;omega))|(refine dB ?_ ?_ <;> intro hg hq <;> try (exfalso;omega))|refine dG ?_|fail)
 all_goals (refine ⟨?_,rfl⟩; simp only [aR,AV.v.injEq,Value.bool.injEq,Value.int.injEq,true_and])
 all_goals (cases hth : s.th <;> cases hel : s.el <;> simp only [hth,hel,List.length_nil,List.length_cons,List.isEmpty_nil,List.isEmpty_cons,Bool.true_and,Bool.false_and] at *)
 all_goals grind
theorem Cw (ts:List Int) (hl:bV ts = true) (m:Nat) (ih:∀ s (d:Int),cM s ≤ m → 0 ≤ d → d ≤ 1000 → PC Tryz.prog 134 [sl cI ts,cE s,iv d] (fun r => r = bv (sQ ts d.toNat s))) (l:List AL.Stmt) (d:Int) (hs:aJ l ≤ m) (hm:m ≤ 100000000) (hd0:0 ≤ d) (hd:d ≤ 1000) :
  PC Tryz.prog 85 [sl cI ts,sl aF l,iv d] (fun r => r = bv (okL ts d.toNat l)) := by
 have hlen := bE l
 refine aD Tryz.func85 Tryz.ntmps85 ?_
 repeat' (first|refine aB ?_|fail)
 refine aL (σ := Nat) [0,1,2] [] (fun k => [(7,iv (k : Int))]) (fun k => []) (fun k => k ≤ l.length ∧ ∀ i,i < k → sQ ts d.toNat l[i]! = true) (fun k => l.length - k) (0) ⟨by omega,by omega⟩ ?_
 intro k ⟨hk,hall⟩
 have hck := cZ l k
 repeat' (first|(apply aH;(apply aA (k := 134);rfl;(apply ih _ d (Nat.le_trans (hck (by omega)) hs) hd0 hd);exact Pur.pf;rfl))|refine aB ?_|(refine aV ?_ ?_ <;> intro hc hq <;> try (exfalso;omega))|refine dG ?_|fail)
 ·(refine ⟨?_, rfl⟩; simp only [aR, AV.v.injEq, Value.bool.injEq, Value.int.injEq, true_and])
  rw [Fy (k := k) (by omega) hq]
 ·(refine bT (k + 1) (Le.renA []) ?_ ?_)
  ·grind
  ·omega
 ·(refine ⟨?_, rfl⟩; simp only [aR, AV.v.injEq, Value.bool.injEq, Value.int.injEq, true_and])
  rw [Hh (fun i hi => hall i (by omega))]
theorem Gx (ts:List Int) (hl:bV ts = true):∀ (m:Nat),m ≤ 100000000 → (∀ s (d:Int),cM s ≤ m → 0 ≤ d → d ≤ 1000 → PC Tryz.prog 134 [sl cI ts,cE s,iv d] (fun r => r = bv (sQ ts d.toNat s))) ∧
  (∀ l (d : Int),aJ l ≤ m → 0 ≤ d → d ≤ 1000 → PC Tryz.prog 85 [sl cI ts,sl aF l,iv d] (fun r => r = bv (okL ts d.toNat l))) := by
 intro m
 induction m using Nat.strongRecOn with
 | ind m ih =>
  intro hm
  have h1 : ∀ s (d : Int), cM s ≤ m → 0 ≤ d → d ≤ 1000 → PC Tryz.prog 134 [sl cI ts, cE s, iv d] (fun r => r = bv (sQ ts d.toNat s)) :=
   fun s d h1 h2 h3 => CG ts hl m (fun l d' g1 g2 g3 => (ih (aJ l) g1 (by omega)).2 l d' (Nat.le_refl _) g2 g3) s d h1 h2 h3
  exact ⟨h1,fun l d g1 g2 g3 => Cw ts hl m h1 l d g1 hm g2 g3⟩
theorem zI (m0:Nat) (ih:∀ l (most:Int),aJ l < m0 → -1 ≤ most → most ≤ 1000 → PC Tryz.prog 86 [sl aF l,iv most] (fun r => r = iv (lQ most 0 l))) (l:List AL.Stmt) (most:Int) (hs:aJ l ≤ m0) (hm:m0 ≤ 100000000) (hd0:-1 ≤ most) (hd:most ≤ 1000) :
  PC Tryz.prog 86 [sl aF l,iv most] (fun r => r = iv (lQ most 0 l)) := by
 have hlen := bE l
 have hall := kF l most 0
 refine aD Tryz.func86 Tryz.ntmps86 ?_
 repeat' (first|refine aB ?_|fail)
 refine aL (σ := Nat × Int) [0,1] [] (fun k => [(6,iv (k.1 : Int)),(5,iv k.2)]) (fun k => []) (fun k => k.1 ≤ l.length ∧ lQ most k.2 (l.drop k.1) = lQ most 0 l ∧ 0 ≤ k.2 ∧ k.2 ≤ aJ l) (fun k => l.length - k.1) (0,0) ⟨by omega,rfl,by omega,by omega⟩ ?_
 rintro ⟨k,n⟩ ⟨hk,hn,hn0,hn1⟩
 dsimp only at hk hn hn0 hn1 ⊢
 have hck := cZ l k
 have hct := eH l[k]!
 have b1 := kF l[k]!.th (most - n) 0
 have b2 := fun z => kF l[k]!.el z 0
 have b3 := EO l[k]! most n
 have b4 := kF (l.drop (k + 1)) most (EW most n l[k]!)
 have b5 := Fj most n l k
 rw [HM] at b3 b4 b5
 repeat' (first|(apply aH;(apply aA (k := 86);rfl;(apply ih <;> omega);exact Pur.pf;rfl))|refine aB ?_|(refine aV ?_ ?_ <;> intro hc hq <;> try (exfalso;omega))|(refine dB ?_ ?_ <;> intro hg hq <;> try (exfalso;omega))|refine dG ?_|fail)
 ·(refine bT (k + 1, n + 1 + lQ (most - n) 0 l[k]!.th + lQ (most - (n + 1 + lQ (most - n) 0 l[k]!.th)) 0 l[k]!.el) (Le.renA []) ?_ ?_)
  ·dsimp only;grind
  ·dsimp only;omega
 ·(refine bT (k + 1, n + 1 + lQ (most - n) 0 l[k]!.th) (Le.renA []) ?_ ?_)
  ·dsimp only;grind
  ·dsimp only;omega
 ·(refine ⟨?_, rfl⟩; simp only [aR, AV.v.injEq, Value.bool.injEq, Value.int.injEq, true_and])
  rw [← hn,Fh _ _ _ (by omega)]
 ·(refine ⟨?_, rfl⟩; simp only [aR, AV.v.injEq, Value.bool.injEq, Value.int.injEq, true_and])
  rw [← hn,Gi _ _ _ _ (by omega)]
theorem C4 (l:List AL.Stmt) (most:Int) (hs:aJ l ≤ 100000000) (hd0:-1 ≤ most) (hd:most ≤ 1000) :
  PC Tryz.prog 86 [sl aF l,iv most] (fun r => r = iv (lQ most 0 l)) := by
 have h : ∀ (m : Nat), m ≤ 100000000 → ∀ l (most : Int), aJ l ≤ m → -1 ≤ most → most ≤ 1000 → PC Tryz.prog 86 [sl aF l, iv most] (fun r => r = iv (lQ most 0 l)) := by
  intro m
  induction m using Nat.strongRecOn with
  | ind m ih =>
   intro hm l most h1 h2 h3
   exact zI m (fun l' most' g1 g2 g3 => ih _ g1 (by omega) l' most' (Nat.le_refl _) g2 g3) l most h1 hm h2 h3
 exact h _ hs l most (Nat.le_refl _) hd0 hd
theorem DN (ts:List Int) (l:List AL.Stmt) (d:Int) (hl:bV ts = true) (hs:aJ l ≤ 100000000) (hd0:0 ≤ d) (hd:d ≤ 1000):PC Tryz.prog 85 [sl cI ts,sl aF l,iv d] (fun r => r = bv (okL ts d.toNat l)) :=
 (Gx ts hl _ hs).2 l d (Nat.le_refl _) hd0 hd
theorem rX (ts:List Int) (hl:ts.length ≤ 1048576):PC Tryz.prog 84 [sl cI ts] (fun r => r = bv (bV ts)):=by
 refine aD Tryz.func84 Tryz.ntmps84 ?_
 repeat' (first|refine aB ?_|fail)
 refine aL (σ := Nat) [0] [] (fun k => [(3,iv (k : Int))]) (fun k => []) (fun k => k ≤ ts.length ∧ ∀ i,i < k → 1 ≤ ts[i]! ∧ ts[i]! ≤ 4) (fun k => ts.length - k) (0) ⟨by omega,by omega⟩ ?_
 intro k ⟨hk,hall⟩
 repeat' (first|refine aB ?_|(refine aV ?_ ?_ <;> intro hc hq <;> try (exfalso;omega))|(refine dB ?_ ?_ <;> intro hg hq <;> try (exfalso;omega))|refine dG ?_|fail)
 ·(refine ⟨?_, rfl⟩; simp only [aR, AV.v.injEq, Value.bool.injEq, Value.int.injEq, true_and])
  unfold bV;grind [lH,lB]
 ·(refine bT (k + 1) (Le.renA []) ?_ ?_)
  ·grind
  ·omega
 ·(refine ⟨?_, rfl⟩; simp only [aR, AV.v.injEq, Value.bool.injEq, Value.int.injEq, true_and])
  unfold bV;grind [lH,lB]
 ·(refine ⟨?_, rfl⟩; simp only [aR, AV.v.injEq, Value.bool.injEq, Value.int.injEq, true_and])
  unfold bV;grind [lH,lB]
theorem kL (p:Prg) (hl:p.types.length ≤ 1048576) (hs:aJ p.body ≤ 100000000):PC Tryz.prog 40 [bW p] (fun r => r = bv (bZ p)):=by
 unfold bZ
 cases ht : bV p.types
 ·refine aD Tryz.func40 Tryz.ntmps40 ?_
  repeat' (first|(apply aH;(apply aA (k := 84);rfl;(apply rX <;> (assumption));exact Pur.pf;rfl))|refine aB ?_|refine dG ?_|fail)
  (refine ⟨?_,rfl⟩; simp only [aR,AV.v.injEq,Value.bool.injEq,Value.int.injEq,true_and])
  rfl
 ·refine aD Tryz.func40 Tryz.ntmps40 ?_
  repeat' (first|(apply aH;(first|(apply aA (k := 84);rfl;(apply rX <;> (assumption));exact Pur.pf;rfl)|(apply aA (k := 85);rfl;(apply DN <;> (first|assumption|omega));exact Pur.pf;rfl)|(apply aA (k := 86);rfl;(apply C4 <;> (first|assumption|omega));exact Pur.pf;rfl)))|refine aB ?_|(refine dB ?_ ?_ <;> intro hg hq <;> try (exfalso;omega))|refine dG ?_|fail)
  ·(refine ⟨?_, rfl⟩; simp only [aR, AV.v.injEq, Value.bool.injEq, Value.int.injEq, true_and])
   rw [show okL p.types 4 p.body = true from hq]; simp only [Bool.true_and,IS,decide_eq_decide]; omega
  ·(refine ⟨?_, rfl⟩; simp only [aR, AV.v.injEq, Value.bool.injEq, Value.int.injEq, true_and])
   rw [show okL p.types 4 p.body = false from hq]; rfl
end Go.Proofs.YtgkalkgplcdnkaaGreat
namespace Go.Proofs.YtgkalkgplcdnkaaGreat
open Go.AL Go.RowKit
variable {N : Nat} {Q : Exit → AS → Prop} {all : Array Oper} {rest : List Oper} {tsl : List (Nat × AV)} {hsl : List (Nat × Option (List AV))} {nidl : Nat} {z0 : Lo} {md : Md} {d : Nat} {ty : TypeId} {pos : String} {af : Array Edge} {tys : Array TypeId}
theorem Gn {ts:List Int}{s:AL.Stmt}{nest c:Int}{x0 x1 x2 x3:Operand}{i0:Nat}(ha0:ev (lk tsl) x0 = some (sl cI ts)) (ha1:ev (lk tsl) x1 = some (cE s)) (ha2:ev (lk tsl) x2 = some (iv nest)) (ha3:ev (lk tsl) x3 = some (.optr i0 0)) (hH0:aQ hsl i0 = some ([iv c])) (hmc:MC Tryz.prog 138 [sl cI ts,cE s,iv nest,.optr 0 0] [(0,some ([iv c]))] 1 (fun _:Unit => True) (fun _ => bv (j9 ts nest c s).1) (fun _ => [(0,some ([iv (j9 ts nest c s).2]))])) (hM:Nat.ble (nidl + 0) aY = true) (hN:Nat.blt d N = true){md':Md}[hmd:MdA md (jH [x0,x1,x2,x3] ++ [.inr i0]) (List.map Sum.inr (List.map Prod.fst ([(i0,some ([iv (j9 ts nest c s).2]))]:List (Nat × Option (List AV)))) ++ [.inl d]) md'] (kk:RW Tryz.prog N all Q md' rest ⟨(d,bv (j9 ts nest c s).1) :: tsl,mI hsl [(i0,some ([iv (j9 ts nest c s).2]))],nidl + 0,z0⟩):RW Tryz.prog N all Q md (⟨some d,.call ⟨.value (.func 138),#[x0,x1,x2,x3],tys⟩,ty,pos,af,none⟩ :: rest) ⟨tsl,hsl,nidl,z0⟩:=by
 exact cF (l := [x0,x1,x2,x3]) [i0] 1 [(i0,some ([iv (j9 ts nest c s).2]))] hmc (avs := [sl cI ts,cE s,iv nest,.optr i0 0]) (by simp only [evL,ha0,ha1,ha2,ha3]) rfl hM hN (md' := md') (hmd := hmd) kk
theorem pO {ts:List Int}{l:List AL.Stmt}{nest c:Int}{x0 x1 x2 x3:Operand}{i0:Nat}(ha0:ev (lk tsl) x0 = some (sl cI ts)) (ha1:ev (lk tsl) x1 = some (sl aF l)) (ha2:ev (lk tsl) x2 = some (iv nest)) (ha3:ev (lk tsl) x3 = some (.optr i0 0)) (hH0:aQ hsl i0 = some ([iv c])) (hmc:MC Tryz.prog 90 [sl cI ts,sl aF l,iv nest,.optr 0 0] [(0,some ([iv c]))] 1 (fun _:Unit => True) (fun _ => bv (iU ts nest c l).1) (fun _ => [(0,some ([iv (iU ts nest c l).2]))])) (hM:Nat.ble (nidl + 0) aY = true) (hN:Nat.blt d N = true){md':Md}[hmd:MdA md (jH [x0,x1,x2,x3] ++ [.inr i0]) (List.map Sum.inr (List.map Prod.fst ([(i0,some ([iv (iU ts nest c l).2]))]:List (Nat × Option (List AV)))) ++ [.inl d]) md'] (kk:RW Tryz.prog N all Q md' rest ⟨(d,bv (iU ts nest c l).1) :: tsl,mI hsl [(i0,some ([iv (iU ts nest c l).2]))],nidl + 0,z0⟩):RW Tryz.prog N all Q md (⟨some d,.call ⟨.value (.func 90),#[x0,x1,x2,x3],tys⟩,ty,pos,af,none⟩ :: rest) ⟨tsl,hsl,nidl,z0⟩:=by
 exact cF (l := [x0,x1,x2,x3]) [i0] 1 [(i0,some ([iv (iU ts nest c l).2]))] hmc (avs := [sl cI ts,sl aF l,iv nest,.optr i0 0]) (by simp only [evL,ha0,ha1,ha2,ha3]) rfl hM hN (md' := md') (hmd := hmd) kk
theorem Hr (ts:List Int) (htO:bV ts = true) (m:Nat) (scanAll_ih:∀ l nest c,aJ l < m → 0 ≤ nest → nest ≤ 4 → 0 ≤ c → c ≤ 30 → MC Tryz.prog 90 [sl cI ts,sl aF l,iv nest,.optr 0 0] [(0,some ([iv c]))] 1 (fun _:Unit => True) (fun _ => bv (iU ts nest c l).1) (fun _ => [(0,some ([iv (iU ts nest c l).2]))])) (s:AL.Stmt) (nest c:Int) (hs:cM s ≤ m) (hn0:0 ≤ nest) (hn:nest ≤ 4) (hc0:0 ≤ c) (hc:c ≤ 30):MC Tryz.prog 138 [sl cI ts,cE s,iv nest,.optr 0 0] [(0,some ([iv c]))] 1 (fun _:Unit => True) (fun _ => bv (j9 ts nest c s).1) (fun _ => [(0,some ([iv (j9 ts nest c s).2]))]):=by
 have ct := eH s
 have hb1 := Jo ts s.th (nest + 1) (c + 1)
 refine cR Tryz.func138 Tryz.ntmps138 ?_
 repeat' (first|(apply aH;(first|(apply pO;rfl;rfl;rfl;rfl;(rfl);(apply scanAll_ih <;> (first|assumption|omega|grind));rfl;rfl)|(apply aA (k := 174);rfl;(apply Ac);(rfl);rfl)|(apply aA (k := 175);rfl;(apply zK <;> (assumption));exact Pur.pf;rfl)))|refine aB ?_|(refine aV ?_ ?_ <;> intro hc hq <;> try (exfalso;omega))|(refine dB ?_ ?_ <;> intro hg hq <;> try (exfalso;omega))|fail)
 all_goals (refine aP rfl ?_; refine eP () trivial ?_ ⟨sE ?_,trivial⟩)
 all_goals (try simp only [aR,AV.v.injEq,Value.bool.injEq,Value.int.injEq,true_and,fG,List.take,List.drop,List.length,List.append,List.nil_append,List.append_nil,Option.some.injEq,List.cons.injEq,and_true])
 all_goals rw [Hv]
 all_goals clear scanAll_ih
 all_goals (cases hel : s.el <;> simp only [hel,List.length_nil,List.length_cons] at * <;> grind)
theorem AG (ts:List Int) (m:Nat) (hm:m ≤ 100000000) (scan_ih:∀ s nest c,cM s ≤ m → 0 ≤ nest → nest ≤ 4 → 0 ≤ c → c ≤ 30 → MC Tryz.prog 138 [sl cI ts,cE s,iv nest,.optr 0 0] [(0,some ([iv c]))] 1 (fun _:Unit => True) (fun _ => bv (j9 ts nest c s).1) (fun _ => [(0,some ([iv (j9 ts nest c s).2]))])) (l:List AL.Stmt) (nest c:Int) (hs:aJ l ≤ m) (hn0:0 ≤ nest) (hn:nest ≤ 4) (hc0:0 ≤ c) (hc:c ≤ 30):MC Tryz.prog 90 [sl cI ts,sl aF l,iv nest,.optr 0 0] [(0,some ([iv c]))] 1 (fun _:Unit => True) (fun _ => bv (iU ts nest c l).1) (fun _ => [(0,some ([iv (iU ts nest c l).2]))]):=by
 have hlen := bE l
 refine cR Tryz.func90 Tryz.ntmps90 ?_
 repeat' (first|refine aB ?_|fail)
 refine aL (σ := Nat × Int) [0,2,3,11,12] [] (fun k => [(13,iv (k.1 : Int))]) (fun k => [(0,some [iv k.2])]) (fun k => k.1 ≤ l.length ∧ iU ts nest k.2 (l.drop k.1) = iU ts nest c l ∧ 0 ≤ k.2 ∧ k.2 ≤ 30) (fun k => l.length - k.1) (0,c) ⟨by omega,rfl,by omega,by omega⟩ ?_
 rintro ⟨k,c'⟩ ⟨hk,hn,hn0,hn1⟩
 dsimp only at hk hn hn0 hn1 ⊢
 have hck := cZ l k
 have hb1 := Iu ts l[k]! nest c'
 have hst := @scL_stop ts nest c' l k
 repeat' (first|(apply aH;(apply Gn;rfl;rfl;rfl;rfl;(rfl);(apply scan_ih <;> (first|assumption|omega));rfl;rfl))|refine aB ?_|(refine aV ?_ ?_ <;> intro hc hq <;> try (exfalso;omega))|fail)
 ·(refine aP rfl ?_; refine eP () trivial ?_ ⟨sE ?_, trivial⟩)
  all_goals (try simp only [aR,AV.v.injEq,Value.bool.injEq,Value.int.injEq,true_and,fG,List.take,List.drop,List.length,List.append,List.nil_append,List.append_nil,Option.some.injEq,List.cons.injEq,and_true])
  all_goals (rw [← hn,hst (by omega)]; grind)
 ·(refine bT (k + 1, (j9 ts nest c' l[k]!).2) (Le.renA []) ?_ ?_)
  ·dsimp only;grind
  ·dsimp only;omega
 ·(refine aP rfl ?_; refine eP () trivial ?_ ⟨sE ?_, trivial⟩)
  all_goals (try simp only [aR,AV.v.injEq,Value.bool.injEq,Value.int.injEq,true_and,fG,List.take,List.drop,List.length,List.append,List.nil_append,List.append_nil,Option.some.injEq,List.cons.injEq,and_true])
  all_goals (rw [← hn,List.drop_of_length_le (by omega),iU])
theorem B2 (ts:List Int) (hl:bV ts = true):∀ (m:Nat),m ≤ 100000000 → (∀ s (nest c:Int),cM s ≤ m → 0 ≤ nest → nest ≤ 4 → 0 ≤ c → c ≤ 30 → MC Tryz.prog 138 [sl cI ts,cE s,iv nest,.optr 0 0] [(0,some ([iv c]))] 1 (fun _:Unit => True) (fun _ => bv (j9 ts nest c s).1) (fun _ => [(0,some ([iv (j9 ts nest c s).2]))])) ∧
  (∀ l (nest c : Int),aJ l ≤ m → 0 ≤ nest → nest ≤ 4 → 0 ≤ c → c ≤ 30 → MC Tryz.prog 90 [sl cI ts,sl aF l,iv nest,.optr 0 0] [(0,some ([iv c]))] 1 (fun _ : Unit => True) (fun _ => bv (iU ts nest c l).1) (fun _ => [(0,some ([iv (iU ts nest c l).2]))])) := by
 intro m
 induction m using Nat.strongRecOn with
 | ind m ih =>
  intro hm
  have h1 : ∀ s (nest c : Int), cM s ≤ m → 0 ≤ nest → nest ≤ 4 → 0 ≤ c → c ≤ 30 → MC Tryz.prog 138 [sl cI ts, cE s, iv nest, .optr 0 0] [(0, some ([iv c]))] 1 (fun _ : Unit => True) (fun _ => bv (j9 ts nest c s).1) (fun _ => [(0, some ([iv (j9 ts nest c s).2]))]) :=
   fun s nest c h1 h2 h3 h4 h5 => Hr ts hl m (fun l nest c g1 g2 g3 g4 g5 => (ih (aJ l) g1 (by omega)).2 l nest c (Nat.le_refl _) g2 g3 g4 g5) s nest c h1 h2 h3 h4 h5
  exact ⟨h1,fun l nest c g1 g2 g3 g4 g5 => AG ts m hm h1 l nest c g1 g2 g3 g4 g5⟩
theorem BX (ts:List Int) (l:List AL.Stmt) (nest c:Int) (hl:bV ts = true) (hs:aJ l ≤ 100000000) (hn0:0 ≤ nest) (hn:nest ≤ 4) (hc0:0 ≤ c) (hc:c ≤ 30):MC Tryz.prog 90 [sl cI ts,sl aF l,iv nest,.optr 0 0] [(0,some ([iv c]))] 1 (fun _:Unit => True) (fun _ => bv (iU ts nest c l).1) (fun _ => [(0,some ([iv (iU ts nest c l).2]))]) :=
 (B2 ts hl _ hs).2 l nest c (Nat.le_refl _) hn0 hn hc0 hc
theorem zG (t:Int):PC Tryz.prog 137 [iv t] (fun r => r = bv (!(decide (1 ≤ t) && decide (t ≤ 4)))):=by
 refine aD Tryz.func137 Tryz.ntmps137 ?_
 repeat' (first|(apply aH;(apply aA (k := 55);rfl;(apply qL);(rfl);rfl))|refine aB ?_|refine dG ?_|fail)
 all_goals (refine ⟨?_,rfl⟩; simp only [aR,AV.v.injEq,Value.bool.injEq,Value.int.injEq,true_and])
def qO (ts : List Int) : Int := match ts.findIdx? (fun t => !(decide (1 ≤ t) && decide (t ≤ 4))) with | some i => i | none => -1
theorem DB (ts:List Int) (hl:ts.length ≤ 1048576):PC Tryz.prog 156 [sl cI ts,.v (.func (.func 137) #[] #[])] (fun r => r = iv (qO ts)):=by
 refine aD Tryz.func156 Tryz.ntmps156 ?_
 repeat' (first|refine aB ?_|fail)
 refine aL (σ := Nat) [0,1,7] [] (fun k => [(8,iv (k : Int))]) (fun k => []) (fun k => k ≤ ts.length ∧ ∀ i,i < k → 1 ≤ ts[i]! ∧ ts[i]! ≤ 4) (fun k => ts.length - k) (0) ⟨by omega,by omega⟩ ?_
 intro k ⟨hk,hall⟩
 repeat' (first|(apply aH;(apply m6;rfl;rfl;infer_instance;rfl;(apply zG);(rfl);rfl))|refine aB ?_|(refine aV ?_ ?_ <;> intro hc hq <;> try (exfalso;omega))|refine dG ?_|fail)
 ·(refine ⟨?_, rfl⟩; simp only [aR, AV.v.injEq, Value.bool.injEq, Value.int.injEq, true_and])
  have hlt : k < ts.length := by omega
  have : ts.findIdx? (fun t => !(decide (1 ≤ t) && decide (t ≤ 4))) = some k := by
   rw [List.findIdx?_eq_some_iff_getElem]
   refine ⟨hlt,?_,fun j hj => ?_⟩
   ·rw [← bG ts k hlt]; grind
   ·have := hall j hj;rw [bG ts j (by omega)] at this;simp;omega
  simp only [qO,this]
 ·(refine bT (k + 1) (Le.renA []) ?_ ?_)
  ·grind
  ·omega
 ·(refine ⟨?_, rfl⟩; simp only [aR, AV.v.injEq, Value.bool.injEq, Value.int.injEq, true_and])
  have : ts.findIdx? (fun t => !(decide (1 ≤ t) && decide (t ≤ 4))) = none := by
   rw [List.findIdx?_eq_none_iff]
   intro x hx
   obtain ⟨i,hi,rfl⟩ := List.getElem_of_mem hx
   have := hall i (by omega);rw [bG ts i hi] at this;simp;omega
  simp only [qO,this]
theorem CH (ts:List Int):decide (0 ≤ qO ts) = !(ts.all (fun t => decide (1 ≤ t) && decide (t ≤ 4))):=by
 unfold qO
 split
 ·rename_i i h
  obtain ⟨h1,h2,_⟩ := List.findIdx?_eq_some_iff_getElem.1 h
  have : ts.all (fun t => decide (1 ≤ t) && decide (t ≤ 4)) = false := by
   rw [List.all_eq_false]; exact ⟨ts[i],List.getElem_mem h1,by simp at h2 ⊢; omega⟩
  rw [this]; simp
 ·rename_i h
  rw [List.findIdx?_eq_none_iff] at h
  have : ts.all (fun t => decide (1 ≤ t) && decide (t ≤ 4)) = true := by
   rw [List.all_eq_true]; intro x hx;simpa using h x hx
  rw [this]; rfl
theorem Db (ts:List Int) (hl:ts.length ≤ 1048576):PC Tryz.prog 115 [sl cI ts,.v (.func (.func 137) #[] #[])] (fun r => r = bv (!(ts.all (fun t => decide (1 ≤ t) && decide (t ≤ 4))))):=by
 refine aD Tryz.func115 Tryz.ntmps115 ?_
 repeat' (first|(apply aH;(apply aA (k := 156);rfl;(apply DB <;> (assumption));exact Pur.pf;rfl))|refine aB ?_|refine dG ?_|fail)
 (refine ⟨?_,rfl⟩; simp only [aR,AV.v.injEq,Value.bool.injEq,Value.int.injEq,true_and])
 exact CH ts
theorem rE (ts:List Int) (hl:ts.length ≤ 1048576):PC Tryz.prog 89 [sl cI ts] (fun r => r = bv (bV ts)):=by
 refine aD Tryz.func89 Tryz.ntmps89 ?_
 repeat' (first|(apply aH;(apply aA (k := 115);rfl;(apply Db <;> (assumption));exact Pur.pf;rfl))|refine aB ?_|(refine dB ?_ ?_ <;> intro hg hq <;> try (exfalso;omega))|refine dG ?_|fail)
 all_goals (refine ⟨?_,rfl⟩; simp only [aR,AV.v.injEq,Value.bool.injEq,Value.int.injEq,true_and])
 all_goals (unfold bV;grind)
theorem kN (p:Prg) (hl:p.types.length ≤ 1048576) (hs:aJ p.body ≤ 100000000):PC Tryz.prog 45 [bW p] (fun r => r = bv (bZ p)):=by
 rw [← Ca]
 cases ht : bV p.types
 ·refine aD Tryz.func45 Tryz.ntmps45 ?_
  repeat' (first|(apply aH;(apply aA (k := 89);rfl;(apply rE <;> (assumption));exact Pur.pf;rfl))|refine aB ?_|refine dG ?_|fail)
  all_goals (refine ⟨?_,rfl⟩; simp only [aR,AV.v.injEq,Value.bool.injEq,Value.int.injEq,true_and])
  all_goals grind
 ·refine aD Tryz.func45 Tryz.ntmps45 ?_
  repeat' (first|(apply aH;(first|(apply aA (k := 89);rfl;(apply rE <;> (assumption));exact Pur.pf;rfl)|(apply pO;rfl;rfl;rfl;rfl;(rfl);(apply BX <;> (first|assumption|omega));rfl;rfl)))|refine aB ?_|refine dG ?_|fail)
  all_goals (refine ⟨?_,rfl⟩; simp only [aR,AV.v.injEq,Value.bool.injEq,Value.int.injEq,true_and])
  all_goals grind
theorem oR {l:List AL.Stmt}{pts:List Pnt}{m:Nat}{x0 x1:Operand}{i0:Nat}(ha0:ev (lk tsl) x0 = some (sl aF l)) (ha1:ev (lk tsl) x1 = some (.own i0 0 m 5)) (hH0:aQ hsl i0 = some (flat b9 pts)) (hmc:MC Tryz.prog 94 [sl aF l,.own 0 0 m 5] [(0,some (flat b9 pts))] 1 (fun _:Unit => True) (fun _ => .own 1 0 (m + cD l) 5) (fun _ => [(1,some (flat b9 (pts ++ fZ pts.length l)))])) (hM:Nat.ble (nidl + 1) aY = true) (hN:Nat.blt d N = true){md':Md}[hmd:MdA md (jH [x0,x1] ++ [.inr i0]) (List.map Sum.inr (List.map Prod.fst ([(nidl,some (flat b9 (pts ++ fZ pts.length l))),(i0,none)]:List (Nat × Option (List AV)))) ++ [.inl d]) md'] (kk:RW Tryz.prog N all Q md' rest ⟨(d,.own nidl 0 (m + cD l) 5) :: tsl,mI hsl [(nidl,some (flat b9 (pts ++ fZ pts.length l))),(i0,none)],nidl + 1,z0⟩):RW Tryz.prog N all Q md (⟨some d,.call ⟨.value (.func 94),#[x0,x1],tys⟩,ty,pos,af,none⟩ :: rest) ⟨tsl,hsl,nidl,z0⟩:=by
 exact cF (l := [x0,x1]) [i0] 2 [(nidl,some (flat b9 (pts ++ fZ pts.length l))),(i0,none)] hmc (avs := [sl aF l,.own i0 0 m 5]) (by simp only [evL,ha0,ha1]) rfl hM hN (md' := md') (hmd := hmd) kk
theorem vV (mm:Nat) (hmm:mm ≤ 1048576) (pointsOf_ih:∀ l pts m,aJ l < mm → m = pts.length → m + cD l ≤ 13000000 → MC Tryz.prog 94 [sl aF l,.own 0 0 m 5] [(0,some (flat b9 pts))] 1 (fun _:Unit => True) (fun _ => .own 1 0 (m + cD l) 5) (fun _ => [(1,some (flat b9 (pts ++ fZ pts.length l)))])) (l:List AL.Stmt) (pts:List Pnt) (m:Nat) (hs:aJ l ≤ mm) (hm:m = pts.length) (hb:m + cD l ≤ 13000000):MC Tryz.prog 94 [sl aF l,.own 0 0 m 5] [(0,some (flat b9 pts))] 1 (fun _:Unit => True) (fun _ => .own 1 0 (m + cD l) 5) (fun _ => [(1,some (flat b9 (pts ++ fZ pts.length l)))]):=by
 have hlen := bE l
 subst hm
 refine cR Tryz.func94 Tryz.ntmps94 ?_
 repeat' (first|refine aB ?_|fail)
 refine AW.le ?_ (Le.mv (d := 1) (i := 0) (cs := flat b9 pts) rfl rfl (by decide))
 refine aL (σ := Nat × List Pnt × Nat) [9,10] [] (fun k => [(11,iv (k.1 : Int)),(1,.own 1 0 k.2.2 5)]) (fun k => [(1,some (flat b9 k.2.1))]) (fun k => k.1 ≤ l.length ∧ k.2.1 = pts ++ fZ pts.length (l.take k.1) ∧ k.2.2 = k.2.1.length ∧ k.2.2 = pts.length + cD (l.take k.1)) (fun k => l.length - k.1) (0,pts,pts.length) ⟨by omega,by simp [fZ],rfl,by simp [cD]⟩ ?_
 rintro ⟨k,xs,m1⟩ ⟨hk,hxs,hm1,hm2⟩
 dsimp only at hk hxs hm1 hm2 ⊢
 have hck := cZ l k
 have hct := eH l[k]!
 have hnt := zO l k
 have n9 := FA l[k]!
 have n10 := zS l[k]!
 have n1 := FK l[k]!
 repeat' (first|(apply aH;first|(apply aW (t := _);rfl;rfl;rfl;(first|exact (rfl:_=some [_])|exact (rfl:_=some [_,_])|exact (rfl:_=some [_,_,_,_,_]));rfl;rfl)|(apply oR;rfl;rfl;(rfl);(apply pointsOf_ih <;> (first|omega|(simp only [jY] <;> omega)));rfl;rfl))|refine aB ?_|(refine aV ?_ ?_ <;> intro hc hq <;> try (exfalso;omega))|fail)
 ·(refine bT (k + 1, _, _) (Le.renA [(1, 8)]) ?_ ?_)
  ·dsimp only
   rw [tI hm1,u6 hm1,tJ (by rw [bO,hm1]),tF (by rw [bO,hm1]),e7 l _ k (by omega),eJ l k (by omega),gJ,if_pos hq,n9 hq]
   refine ⟨by omega,?_,by simp [bO]; omega,by omega⟩
   have e1 : xs.length = pts.length + cD (l.take k) := by omega
   rw [← List.append_assoc pts,← hxs,← e1]
   simp only [List.append_assoc,List.length_append,List.length_cons,List.length_nil,bO,hm1,Nat.zero_add]
   clear pointsOf_ih hxs hck hnt n9 n10 n1
   grind
  ·dsimp only;omega
 ·(refine bT (k + 1, _, _) (Le.renA [(1, 8)]) ?_ ?_)
  ·dsimp only
   rw [y9 hm1,yV hm1,e7 l _ k (by omega),eJ l k (by omega),gJ,if_neg (by omega),if_pos hq,n10 hq]
   refine ⟨by omega,?_,by simp [bO]; omega,by omega⟩
   have e1 : xs.length = pts.length + cD (l.take k) := by omega
   rw [← List.append_assoc pts,← hxs,← e1]
   simp only [List.append_assoc,List.length_append,List.length_cons,List.length_nil,bO,hm1,Nat.zero_add]
   clear pointsOf_ih hxs hck hnt n9 n10 n1
   grind
  ·dsimp only;omega
 ·(refine bT (k + 1, _, _) (Le.renA [(1, 5)]) ?_ ?_)
  ·dsimp only
   rw [e7 l _ k (by omega),eJ l k (by omega),gJ,if_neg ‹¬l[k]!.op = 9›,if_neg hq,n1 ‹¬l[k]!.op = 9› hq]
   refine ⟨by omega,?_,by simp [bO]; omega,by omega⟩
   have e1 : xs.length = pts.length + cD (l.take k) := by omega
   rw [← List.append_assoc pts,← hxs,← e1,hm1]
  ·dsimp only;omega
 ·refine aP rfl ?_
  have e2 : l.take k = l := List.take_of_length_le (by omega)
  rw [e2] at hxs hm2
  refine eP () trivial ?_ ⟨sE ?_,trivial⟩
  ·simp only [aR]; rw [hm2]
  ·rw [hxs]
theorem zH (l:List AL.Stmt) (pts:List Pnt) (m:Nat) (hs:aJ l ≤ 1048576) (hm:m = pts.length) (hb:m + cD l ≤ 13000000):MC Tryz.prog 94 [sl aF l,.own 0 0 m 5] [(0,some (flat b9 pts))] 1 (fun _:Unit => True) (fun _ => .own 1 0 (m + cD l) 5) (fun _ => [(1,some (flat b9 (pts ++ fZ pts.length l)))]):=by
 have h : ∀ (mm : Nat), mm ≤ 1048576 → ∀ l pts m, aJ l ≤ mm → m = pts.length → m + cD l ≤ 13000000 → MC Tryz.prog 94 [sl aF l, .own 0 0 m 5] [(0, some (flat b9 pts))] 1 (fun _ : Unit => True) (fun _ => .own 1 0 (m + cD l) 5) (fun _ => [(1, some (flat b9 (pts ++ fZ pts.length l)))]) := by
  intro mm
  induction mm using Nat.strongRecOn with
  | ind mm ih =>
   intro h0 l pts m h1 h2 h3
   exact vV mm h0 (fun l' pts' m' g1 g2 g3 => ih _ g1 (by omega) l' pts' m' (Nat.le_refl _) g2 g3) l pts m h1 h2 h3
 exact h _ hs l pts m (Nat.le_refl _) hm hb
theorem nG {l:List AL.Stmt}{x0 x1:Operand}(ha0:ev (lk tsl) x0 = some (sl aF l)) (ha1:ev (lk tsl) x1 = some (.v (.slice none 0 0))) (hmc:MC Tryz.prog 94 [sl aF l,.v (.slice none 0 0)] [] 0 (fun _:Unit => True) (fun _ => .own 0 0 (cD l) 5) (fun _ => [(0,some (flat b9 (fZ 0 l)))])) (hM:Nat.ble (nidl + 1) aY = true) (hN:Nat.blt d N = true){md':Md}[hmd:MdA md (jH [x0,x1] ++ []) (List.map Sum.inr (List.map Prod.fst ([(nidl,some (flat b9 (fZ 0 l)))]:List (Nat × Option (List AV)))) ++ [.inl d]) md'] (kk:RW Tryz.prog N all Q md' rest ⟨(d,.own nidl 0 (cD l) 5) :: tsl,mI hsl [(nidl,some (flat b9 (fZ 0 l)))],nidl + 1,z0⟩):RW Tryz.prog N all Q md (⟨some d,.call ⟨.value (.func 94),#[x0,x1],tys⟩,ty,pos,af,none⟩ :: rest) ⟨tsl,hsl,nidl,z0⟩:=by
 exact cF (l := [x0,x1]) [] 1 [(nidl,some (flat b9 (fZ 0 l)))] hmc (avs := [sl aF l,.v (.slice none 0 0)]) (by simp only [evL,ha0,ha1]) rfl hM hN (md' := md') (hmd := hmd) kk
theorem oG (l:List AL.Stmt) (hs:aJ l ≤ 1048576):MC Tryz.prog 94 [sl aF l,.v (.slice none 0 0)] [] 0 (fun _:Unit => True) (fun _ => .own 0 0 (cD l) 5) (fun _ => [(0,some (flat b9 (fZ 0 l)))]):=by
 have hlen := bE l
 have hn2 := iT l
 refine cR Tryz.func94 Tryz.ntmps94 ?_
 repeat' (first|refine aB ?_|fail)
 refine AW.le ?_ (Le.nilOwn (d := 1) 5 rfl (by decide))
 refine aL (σ := Nat × List Pnt × Nat) [9,10] [] (fun k => [(11,iv (k.1 : Int)),(1,.own 0 0 k.2.2 5)]) (fun k => [(0,some (flat b9 k.2.1))]) (fun k => k.1 ≤ l.length ∧ k.2.1 = fZ 0 (l.take k.1) ∧ k.2.2 = k.2.1.length ∧ k.2.2 = cD (l.take k.1)) (fun k => l.length - k.1) (0,[],0) ⟨by omega,by simp [fZ],rfl,by simp [cD]⟩ ?_
 rintro ⟨k,xs,m1⟩ ⟨hk,hxs,hm1,hm2⟩
 dsimp only at hk hxs hm1 hm2 ⊢
 have hck := cZ l k
 have hct := eH l[k]!
 have hnt := zO l k
 have n9 := FA l[k]!
 have n10 := zS l[k]!
 have n1 := FK l[k]!
 repeat' (first|(apply aH;first|(apply aW (t := _);rfl;rfl;rfl;(first|exact (rfl:_=some [_])|exact (rfl:_=some [_,_])|exact (rfl:_=some [_,_,_,_,_]));rfl;rfl)|(apply oR;rfl;rfl;(rfl);(apply zH <;> (first|omega|(simp only [jY] <;> omega)));rfl;rfl))|refine aB ?_|(refine aV ?_ ?_ <;> intro hc hq <;> try (exfalso;omega))|fail)
 ·(refine bT (k + 1, _, _) (Le.renA [(0, 7)]) ?_ ?_)
  ·dsimp only
   rw [tI hm1,u6 hm1,tJ (by rw [bO,hm1]),tF (by rw [bO,hm1]),e7 l _ k (by omega),eJ l k (by omega),gJ,if_pos hq,n9 hq]
   refine ⟨by omega,?_,by simp [bO]; omega,by omega⟩
   have e1 : cD (l.take k) = xs.length := by omega
   rw [Nat.zero_add,e1]
   rw [← hxs]
   simp only [List.append_assoc,List.length_append,List.length_cons,List.length_nil,bO,hm1,Nat.zero_add]
   clear hxs hck hnt n9 n10 n1
   grind
  ·dsimp only;omega
 ·(refine bT (k + 1, _, _) (Le.renA [(0, 7)]) ?_ ?_)
  ·dsimp only
   rw [y9 hm1,yV hm1,e7 l _ k (by omega),eJ l k (by omega),gJ,if_neg (by omega),if_pos hq,n10 hq]
   refine ⟨by omega,?_,by simp [bO]; omega,by omega⟩
   have e1 : cD (l.take k) = xs.length := by omega
   rw [Nat.zero_add,e1]
   rw [← hxs]
   simp only [List.append_assoc,List.length_append,List.length_cons,List.length_nil,bO,hm1,Nat.zero_add]
   clear hxs hck hnt n9 n10 n1
   grind
  ·dsimp only;omega
 ·(refine bT (k + 1, _, _) (Le.renA [(0, 4)]) ?_ ?_)
  ·dsimp only
   rw [e7 l _ k (by omega),eJ l k (by omega),gJ,if_neg ‹¬l[k]!.op = 9›,if_neg hq,n1 ‹¬l[k]!.op = 9› hq]
   refine ⟨by omega,?_,by simp [bO]; omega,by omega⟩
   have e1 : cD (l.take k) = xs.length := by omega
   rw [Nat.zero_add,e1]
   rw [← hxs,hm1]
  ·dsimp only;omega
 ·refine aP rfl ?_
  have e2 : l.take k = l := List.take_of_length_le (by omega)
  rw [e2] at hxs hm2
  refine eP () trivial ?_ ⟨sE ?_,trivial⟩
  ·simp only [aR]; rw [hm2]
  ·rw [hxs]
theorem DM (p:Prg) (hs:aJ p.body ≤ 1048576):PC Tryz.prog 109 [bW p] (fun r => r = sl b9 (aE p)):=by
 have hn := iT p.body
 refine aD Tryz.func109 Tryz.ntmps109 ?_
 repeat' (first|(apply aH;first|(apply aW (t := _);rfl;rfl;rfl;(exact (rfl:_=some [_,_,_,_,_]));rfl;rfl)|(apply nG;rfl;rfl;(apply oG <;> (assumption));rfl;rfl))|refine aB ?_|fail)
 (refine bK (Le.frzD (d := 2) (i := 3) rfl rfl) ?_; refine aP rfl ?_)
 refine ⟨?_,?_⟩
 ·simp only [aR,sl,aE,List.length_append,List.length_cons,List.length_nil,bO,Nat.zero_add]
 ·(exact bD _ _)
theorem qP {l:List AL.Stmt}{pts:List Pnt}{m:Nat}{x0 x1:Operand}{i0:Nat}(ha0:ev (lk tsl) x0 = some (.own i0 0 m 5)) (ha1:ev (lk tsl) x1 = some (sl aF l)) (hH0:aQ hsl i0 = some (flat b9 pts)) (hmc:MC Tryz.prog 74 [.own 0 0 m 5,sl aF l] [(0,some (flat b9 pts))] 1 (fun _:Unit => True) (fun _ => .own 1 0 (m + cD l) 5) (fun _ => [(1,some (flat b9 (pts ++ fZ pts.length l)))])) (hM:Nat.ble (nidl + 1) aY = true) (hN:Nat.blt d N = true){md':Md}[hmd:MdA md (jH [x0,x1] ++ [.inr i0]) (List.map Sum.inr (List.map Prod.fst ([(nidl,some (flat b9 (pts ++ fZ pts.length l))),(i0,none)]:List (Nat × Option (List AV)))) ++ [.inl d]) md'] (kk:RW Tryz.prog N all Q md' rest ⟨(d,.own nidl 0 (m + cD l) 5) :: tsl,mI hsl [(nidl,some (flat b9 (pts ++ fZ pts.length l))),(i0,none)],nidl + 1,z0⟩):RW Tryz.prog N all Q md (⟨some d,.call ⟨.value (.func 74),#[x0,x1],tys⟩,ty,pos,af,none⟩ :: rest) ⟨tsl,hsl,nidl,z0⟩:=by
 exact cF (l := [x0,x1]) [i0] 2 [(nidl,some (flat b9 (pts ++ fZ pts.length l))),(i0,none)] hmc (avs := [.own i0 0 m 5,sl aF l]) (by simp only [evL,ha0,ha1]) rfl hM hN (md' := md') (hmd := hmd) kk
theorem ER (mm:Nat) (hmm:mm ≤ 1048576) (l2Add_ih:∀ l pts m,aJ l < mm → m = pts.length → m + cD l ≤ 13000000 → MC Tryz.prog 74 [.own 0 0 m 5,sl aF l] [(0,some (flat b9 pts))] 1 (fun _:Unit => True) (fun _ => .own 1 0 (m + cD l) 5) (fun _ => [(1,some (flat b9 (pts ++ fZ pts.length l)))])) (l:List AL.Stmt) (pts:List Pnt) (m:Nat) (hs:aJ l ≤ mm) (hm:m = pts.length) (hb:m + cD l ≤ 13000000):MC Tryz.prog 74 [.own 0 0 m 5,sl aF l] [(0,some (flat b9 pts))] 1 (fun _:Unit => True) (fun _ => .own 1 0 (m + cD l) 5) (fun _ => [(1,some (flat b9 (pts ++ fZ pts.length l)))]):=by
 have hlen := bE l
 subst hm
 refine cR Tryz.func74 Tryz.ntmps74 ?_
 repeat' (first|refine aB ?_|fail)
 refine AW.le ?_ (Le.mv (d := 0) (i := 0) (cs := flat b9 pts) rfl rfl (by decide))
 refine aL (σ := Nat × List Pnt × Nat) [1] [] (fun k => [(5,iv (k.1 : Int)),(0,.own 1 0 k.2.2 5)]) (fun k => [(1,some (flat b9 k.2.1))]) (fun k => k.1 ≤ l.length ∧ k.2.1 = pts ++ fZ pts.length (l.take k.1) ∧ k.2.2 = k.2.1.length ∧ k.2.2 = pts.length + cD (l.take k.1)) (fun k => l.length - k.1) (0,pts,pts.length) ⟨by omega,by simp [fZ],rfl,by simp [cD]⟩ ?_
 rintro ⟨k,xs,m1⟩ ⟨hk,hxs,hm1,hm2⟩
 dsimp only at hk hxs hm1 hm2 ⊢
 have hck := cZ l k
 have hct := eH l[k]!
 have hnt := zO l k
 have n9 := FA l[k]!
 have n10 := zS l[k]!
 have n1 := FK l[k]!
 repeat' (first|(apply aH;first|(apply aW (t := _);rfl;rfl;rfl;(first|exact (rfl:_=some [_])|exact (rfl:_=some [_,_])|exact (rfl:_=some [_,_,_,_,_]));rfl;rfl)|(apply qP;rfl;rfl;(rfl);(apply l2Add_ih <;> (first|omega|(simp only [jY] <;> omega)));rfl;rfl))|refine aB ?_|(refine aV ?_ ?_ <;> intro hc hq <;> try (exfalso;omega))|fail)
 ·(refine bT (k + 1, _, _) (Le.renA [(1, 8)]) ?_ ?_)
  ·dsimp only
   rw [tJ (by rw [bO,hm1]),tF (by rw [bO,hm1]),tI hm1,u6 hm1,e7 l _ k (by omega),eJ l k (by omega),gJ,if_pos hq,n9 hq]
   refine ⟨by omega,?_,by simp [bO]; omega,by omega⟩
   have e1 : xs.length = pts.length + cD (l.take k) := by omega
   rw [← List.append_assoc pts,← hxs,← e1]
   simp only [List.append_assoc,List.length_append,List.length_cons,List.length_nil,bO,hm1,Nat.zero_add]
   clear l2Add_ih hxs hck hnt n9 n10 n1
   grind
  ·dsimp only;omega
 ·(refine bT (k + 1, _, _) (Le.renA [(1, 8)]) ?_ ?_)
  ·dsimp only
   rw [y9 hm1,yV hm1,e7 l _ k (by omega),eJ l k (by omega),gJ,if_neg (by omega),if_pos hq,n10 hq]
   refine ⟨by omega,?_,by simp [bO]; omega,by omega⟩
   have e1 : xs.length = pts.length + cD (l.take k) := by omega
   rw [← List.append_assoc pts,← hxs,← e1]
   simp only [List.append_assoc,List.length_append,List.length_cons,List.length_nil,bO,hm1,Nat.zero_add]
   clear l2Add_ih hxs hck hnt n9 n10 n1
   grind
  ·dsimp only;omega
 ·(refine bT (k + 1, _, _) (Le.renA [(1, 5)]) ?_ ?_)
  ·dsimp only
   rw [e7 l _ k (by omega),eJ l k (by omega),gJ,if_neg ‹¬l[k]!.op = 9›,if_neg hq,n1 ‹¬l[k]!.op = 9› hq]
   refine ⟨by omega,?_,by simp [bO]; omega,by omega⟩
   have e1 : xs.length = pts.length + cD (l.take k) := by omega
   rw [← List.append_assoc pts,← hxs,← e1,hm1]
  ·dsimp only;omega
 ·refine aP rfl ?_
  have e2 : l.take k = l := List.take_of_length_le (by omega)
  rw [e2] at hxs hm2
  refine eP () trivial ?_ ⟨sE ?_,trivial⟩
  ·simp only [aR]; rw [hm2]
  ·rw [hxs]
theorem By (l:List AL.Stmt) (pts:List Pnt) (m:Nat) (hs:aJ l ≤ 1048576) (hm:m = pts.length) (hb:m + cD l ≤ 13000000):MC Tryz.prog 74 [.own 0 0 m 5,sl aF l] [(0,some (flat b9 pts))] 1 (fun _:Unit => True) (fun _ => .own 1 0 (m + cD l) 5) (fun _ => [(1,some (flat b9 (pts ++ fZ pts.length l)))]):=by
 have h : ∀ (mm : Nat), mm ≤ 1048576 → ∀ l pts m, aJ l ≤ mm → m = pts.length → m + cD l ≤ 13000000 → MC Tryz.prog 74 [.own 0 0 m 5, sl aF l] [(0, some (flat b9 pts))] 1 (fun _ : Unit => True) (fun _ => .own 1 0 (m + cD l) 5) (fun _ => [(1, some (flat b9 (pts ++ fZ pts.length l)))]) := by
  intro mm
  induction mm using Nat.strongRecOn with
  | ind mm ih =>
   intro h0 l pts m h1 h2 h3
   exact ER mm h0 (fun l' pts' m' g1 g2 g3 => ih _ g1 (by omega) l' pts' m' (Nat.le_refl _) g2 g3) l pts m h1 h2 h3
 exact h _ hs l pts m (Nat.le_refl _) hm hb
theorem jJ (p:Prg) (hs:aJ p.body ≤ 1048576):PC Tryz.prog 27 [bW p] (fun r => r = sl b9 (aE p)):=by
 have hn := iT p.body
 have e0 : ([] : List AV) = flat b9 [] := rfl
 refine aD Tryz.func27 Tryz.ntmps27 ?_
 repeat' (first|(apply aH;(apply qP;rfl;rfl;(exact sH rfl);(apply By <;> (first|assumption|omega|(simp only [jY] <;> omega)));rfl;rfl))|refine aB ?_|fail)
 (refine bK (Le.frzD (d := 2) (i := 4) rfl rfl) ?_; refine aP rfl ?_)
 refine ⟨?_,(by (exact bD _ _))⟩
 simp only [aR,sl,aE,List.length_append,List.length_cons,List.length_nil,bO,Nat.zero_add,List.nil_append]
theorem AP (ts:List Int) (bd:List AL.Stmt) (pts:List Pnt) (v:Int) (h:0 ≤ v ∧ v < ts.length):PC Tryz.prog 201 [aG ts bd pts,iv v] (fun r => r = bv (IV ts[v.toNat]!)):=by
 refine aD Tryz.func201 Tryz.ntmps201 ?_
 repeat' (first|refine aB ?_|(refine dB ?_ ?_ <;> intro hg hq <;> try (exfalso;omega))|refine dG ?_|fail)
 all_goals (refine ⟨?_,rfl⟩; simp only [aR,AV.v.injEq,Value.bool.injEq,Value.int.injEq,true_and])
 all_goals grind [IV]
theorem JP (ts:List Int) (bd:List AL.Stmt) (pts:List Pnt) (x:Pnt) (v:Int) (h:0 ≤ v ∧ v < ts.length):PC Tryz.prog 188 [aG ts bd pts,oB x,iv v] (fun r => r = iv (bB ts x v)):=by
 refine aD Tryz.func188 Tryz.ntmps188 ?_
 repeat' (first|(apply aH;(apply aA (k := 201);rfl;(apply AP <;> (assumption));exact Pur.pf;rfl))|refine aB ?_|(refine aV ?_ ?_ <;> intro hc hq <;> try (exfalso;omega))|(refine dB ?_ ?_ <;> intro hg hq <;> try (exfalso;omega))|refine dG ?_|fail)
 all_goals (refine ⟨?_,rfl⟩; simp only [aR,AV.v.injEq,Value.bool.injEq,Value.int.injEq,true_and])
 all_goals grind [IV,bB]
theorem vH (x:Pnt):PC Tryz.prog 183 [oB x] (fun r => r = iv (aU x)):=by
 refine aD Tryz.func183 Tryz.ntmps183 ?_
 repeat' (first|refine aB ?_|(refine aV ?_ ?_ <;> intro hc hq <;> try (exfalso;omega))|refine dG ?_|fail)
 all_goals (refine ⟨?_,rfl⟩; simp only [aR,AV.v.injEq,Value.bool.injEq,Value.int.injEq,true_and])
 all_goals grind [aU]
theorem kG (x:Pnt):PC Tryz.prog 184 [oB x] (fun r => r = bv (b7 x)):=by
 refine aD Tryz.func184 Tryz.ntmps184 ?_
 repeat' (first|refine aB ?_|(refine dB ?_ ?_ <;> intro hg hq <;> try (exfalso;omega))|refine dG ?_|fail)
 all_goals (refine ⟨?_,rfl⟩; simp only [aR,AV.v.injEq,Value.bool.injEq,Value.int.injEq,true_and])
 all_goals grind [b7]
theorem nL (x:Pnt) (h:aU x < 62):PC Tryz.prog 178 [oB x] (fun r => r = iv (gG x:Nat)):=by
 refine aD Tryz.func178 Tryz.ntmps178 ?_
 repeat' (first|(apply aH;first|(apply iN;rfl;rfl;infer_instance;omega;rfl;(case' kk => intro hsm))|(apply aA (k := 183);rfl;(apply vH);exact Pur.pf;rfl))|refine aB ?_|(refine aV ?_ ?_ <;> intro hc hq <;> try (exfalso;omega))|refine dG ?_|fail)
 all_goals (refine ⟨?_,rfl⟩; simp only [aR,AV.v.injEq,Value.bool.injEq,Value.int.injEq,true_and])
 all_goals (unfold gG)
 ·rw [if_pos (by omega)]
 ·rw [if_neg (by omega)]; rfl
theorem JT (ts:List Int) (bd:List AL.Stmt) (pts:List Pnt) (h:ts.length ≤ 6):PC Tryz.prog 176 [aG ts bd pts] (fun r => r = iv ((2 ^ ts.length - 1:Nat):Int)):=by
 have h1 : 2 ^ ts.length ≤ 2 ^ 6 := Nat.pow_le_pow_right (by decide) h
 have h2 : 0 < 2 ^ ts.length := Nat.pow_pos (by decide)
 have h3 : 2 ^ (ts.length : Int).toNat ≤ 2 ^ 6 := h1
 have h4 : 2 ^ (ts.length : Int).toNat = 2 ^ ts.length := rfl
 refine aD Tryz.func176 Tryz.ntmps176 ?_
 repeat' (first|(apply aH;(apply iN;rfl;rfl;infer_instance;omega;rfl;(case' kk => intro hsm)))|refine aB ?_|refine dG ?_|fail)
 all_goals (refine ⟨?_,rfl⟩; simp only [aR,AV.v.injEq,Value.bool.injEq,Value.int.injEq,true_and])
 omega
def Dl (xs : List Int) (v : Int) : Int := match xs.findIdx? (fun t => decide (t = v)) with | some i => i | none => -1
theorem HD (xs:List Int) (v:Int) (hl:xs.length ≤ 1048576):PC Tryz.prog 99 [sl cI xs,iv v] (fun r => r = iv (Dl xs v)):=by
 refine aD Tryz.func99 Tryz.ntmps99 ?_
 repeat' (first|refine aB ?_|fail)
 refine aL (σ := Nat) [0,1,7] [] (fun k => [(8,iv (k : Int))]) (fun k => []) (fun k => k ≤ xs.length ∧ ∀ i,i < k → xs[i]! ≠ v) (fun k => xs.length - k) (0) ⟨by omega,by omega⟩ ?_
 intro k ⟨hk,hall⟩
 repeat' (first|refine aB ?_|(refine aV ?_ ?_ <;> intro hc hq <;> try (exfalso;omega))|refine dG ?_|fail)
 ·(refine ⟨?_, rfl⟩; simp only [aR, AV.v.injEq, Value.bool.injEq, Value.int.injEq, true_and])
  have hlt : k < xs.length := by omega
  have : xs.findIdx? (fun t => decide (t = v)) = some k := by
   rw [List.findIdx?_eq_some_iff_getElem]
   refine ⟨hlt,?_,fun j hj => ?_⟩
   ·rw [← bG xs k hlt]; grind
   ·have := hall j hj;rw [bG xs j (by omega)] at this;simpa using this
  simp only [Dl,this]
 ·(refine bT (k + 1) (Le.renA []) ?_ ?_)
  ·grind
  ·omega
 ·(refine ⟨?_, rfl⟩; simp only [aR, AV.v.injEq, Value.bool.injEq, Value.int.injEq, true_and])
  have : xs.findIdx? (fun t => decide (t = v)) = none := by
   rw [List.findIdx?_eq_none_iff]
   intro x hx
   obtain ⟨i,hi,rfl⟩ := List.getElem_of_mem hx
   have := hall i (by omega);rw [bG xs i hi] at this;simpa using this
  simp only [Dl,this]
theorem Hs (xs:List Int) (v:Int):decide (0 ≤ Dl xs v) = decide (v ∈ xs):=by
 unfold Dl
 split
 ·rename_i i h
  obtain ⟨h1,h2,_⟩ := List.findIdx?_eq_some_iff_getElem.1 h
  simp only [decide_eq_true_eq] at h2
  have : v ∈ xs := by rw [← h2]; exact List.getElem_mem h1
  simp [this]
 ·rename_i h
  rw [List.findIdx?_eq_none_iff] at h
  have : v ∉ xs := fun hm => by have := h v hm;simp at this
  simp [this]
theorem Ag (xs:List Int) (v:Int) (hl:xs.length ≤ 1048576):PC Tryz.prog 57 [sl cI xs,iv v] (fun r => r = bv (decide (v ∈ xs))):=by
 refine aD Tryz.func57 Tryz.ntmps57 ?_
 repeat' (first|(apply aH;(apply aA (k := 99);rfl;(apply HD <;> (assumption));exact Pur.pf;rfl))|refine aB ?_|refine dG ?_|fail)
 (refine ⟨?_,rfl⟩; simp only [aR,AV.v.injEq,Value.bool.injEq,Value.int.injEq,true_and])
 exact Hs xs v
theorem A3 (ts:List Int) (bd:List AL.Stmt) (pts:List Pnt) (x:Pnt) (us:List Int) (h:ts.length ≤ 6) (hu:us.length ≤ 1000):PC Tryz.prog 157 [aG ts bd pts,oB x,sl cI us] (fun r => r = iv (wS ts x us:Nat)):=by
 refine aD Tryz.func157 Tryz.ntmps157 ?_
 repeat' (first|refine aB ?_|fail)
 refine aL (σ := Nat × Nat) [0,2,4,14] [0] (fun k => [(15,iv (k.1 : Int)),(7,iv (k.2 : Int))]) (fun k => []) (fun k => k.1 ≤ ts.length ∧ k.2 = eF (fun v => decide (bB ts x v ∈ us)) k.1) (fun k => ts.length - k.1) (0,0) ⟨by omega,rfl⟩ ?_
 rintro ⟨k,A⟩ ⟨hk,hA⟩
 dsimp only at hk hA ⊢
 have hsm : Sm A := hA ▸ dV (by omega)
 repeat' (first|(apply aH;first|(apply iN;rfl;rfl;infer_instance;omega;rfl;(case' kk => intro hsm))|(first|(apply aA (k := 57);rfl;(apply Ag <;> (omega));exact Pur.pf;rfl)|(apply aA (k := 188);rfl;(apply JP <;> (omega));exact Pur.pf;rfl)))|refine aB ?_|(refine aV ?_ ?_ <;> intro hc hq <;> try (exfalso;omega))|refine dG ?_|fail)
 ·(refine bT (k + 1, _) (Le.renA [(0, 0)]) ?_ ?_)
  ·dsimp only
   rw [hA]
   exact ⟨by omega,oJ _ _ (by simpa using hq)⟩
  ·dsimp only;omega
 ·(refine bT (k + 1, _) (Le.renA [(0, 0)]) ?_ ?_)
  ·dsimp only
   rw [hA]
   exact ⟨by omega,kU _ _ (by simpa using hq)⟩
  ·dsimp only;omega
 ·(refine ⟨?_, rfl⟩; simp only [aR, AV.v.injEq, Value.bool.injEq, Value.int.injEq, true_and])
  rw [hA,show k = ts.length by omega]; rfl
theorem DQ (ts:List Int) (bd:List AL.Stmt) (pts:List Pnt) (x:Pnt) (h:ts.length ≤ 6):PC Tryz.prog 116 [aG ts bd pts,oB x] (fun r => r = iv (wS ts x [1,2,3]:Nat)):=by
 refine aD Tryz.func116 Tryz.ntmps116 ?_
 repeat' (first|(apply aH;first|(apply aW (t := _);rfl;rfl;rfl;(exact (rfl:_=some [_,_,_]));rfl;rfl)|(apply aA (k := 157);rfl;(apply A3 (us := [1,2,3]) <;> (first|assumption|decide));exact Pur.pf;rfl))|refine aB ?_|refine dG ?_|fail)
 (refine ⟨?_,rfl⟩; simp only [aR,AV.v.injEq,Value.bool.injEq,Value.int.injEq,true_and])
theorem pD (ts:List Int) (bd:List AL.Stmt) (pts:List Pnt) (x:Pnt) (h:ts.length ≤ 6):PC Tryz.prog 177 [aG ts bd pts,oB x] (fun r => r = iv (wS ts x [2]:Nat)):=by
 refine aD Tryz.func177 Tryz.ntmps177 ?_
 repeat' (first|(apply aH;first|(apply aW (t := _);rfl;rfl;rfl;exact (rfl:_=some [_]);rfl;rfl)|(apply aA (k := 157);rfl;(apply A3 (us := [2]) <;> (first|assumption|decide));exact Pur.pf;rfl))|refine aB ?_|refine dG ?_|fail)
 (refine ⟨?_,rfl⟩; simp only [aR,AV.v.injEq,Value.bool.injEq,Value.int.injEq,true_and])
theorem xD (ts:List Int) (bd:List AL.Stmt) (pts:List Pnt) (i:Int) (A:Nat) (h:WG ts pts) (hi:0 ≤ i ∧ i < pts.length) (hA:Sm A):PC Tryz.prog 142 [aG ts bd pts,iv i,iv (A:Int)] (fun r => r = iv (gA ts pts[i.toNat]! A:Nat)):=by
 have htl := h.tl
 have hst := (h.set i.toNat (by omega)).1
 have hs1 : Sm (wS ts pts[i.toNat]! [2]) := dV (by omega)
 have hs2 : Sm (gG pts[i.toNat]!) := pE (by omega)
 refine aD Tryz.func142 Tryz.ntmps142 ?_
 repeat' (first|(apply aH;(first|(apply aA (k := 177);rfl;(apply pD <;> (assumption));exact Pur.pf;rfl)|(apply aA (k := 178);rfl;(apply nL <;> (omega));exact Pur.pf;rfl)))|refine aB ?_|refine dH ?_|refine dG ?_|fail)
 (refine ⟨?_,rfl⟩; simp only [aR,AV.v.injEq,Value.bool.injEq,Value.int.injEq,true_and])
 rfl
theorem zF (ts:List Int) (bd:List AL.Stmt) (pts:List Pnt) (A:List Nat) (w:WG ts pts) (hA:oQ ts pts A):PC Tryz.prog 141 [aG ts bd pts,iv 0,bv false,.clos (.func 142) [aG ts bd pts] []] (fun r => r = .imm pts.length (flat cN A)):=by
 have hpl := w.pl
 have hp0 := w.p0
 have htl := w.tl
 have fl := JE w
 refine aD Tryz.func141 Tryz.ntmps141 ?_
 repeat' (first|refine aB ?_|fail)
 refine aL (σ := List Nat × Bool) [0,2,3,9] [] (fun s => [(11,bv s.2)]) (fun s => [(0,some (flat cN s.1))]) (fun s => SG pts (JZ ts pts) s.1 ∧ True ∧ (s.2 = false → jQ mC (fun i A => gA ts pts[i]! A) pts s.1)) (fun s => 2 * eQ (s.1.map (fun a => 2 ^ ts.length - a)) + s.2.toNat) (((List.replicate pts.length 0).set 0 0),true) ⟨by rw [E3 (by rw [bG _ _ (by simpa using hp0),List.getElem_replicate]) (by simpa using hp0)]; exact z7 fun i hi => ⟨Nat.pow_pos (by decide),fun v h => by simp at h⟩,trivial,fun h => by cases h⟩ ?_
 rintro ⟨s,b⟩ ⟨hS,hE,hC⟩
 dsimp only at hS hE hC ⊢
 repeat' (first|refine aB ?_|(refine aV ?_ ?_ <;> intro hc hq <;> try (exfalso;omega))|fail)
 ·refine aL (σ := Nat × (List Nat × Bool)) [0, 2, 3, 9, 43, 44] [] (fun k => [(45, iv (k.1 : Int)), (11, bv k.2.2)]) (fun k => [(0, some (flat cN k.2.1))]) (fun k => k.1 ≤ pts.length ∧ k.2 = (List.range k.1).foldl (tL mC (fun i A => gA ts pts[i]! A) pts) (s, false) ∧ SG pts (JZ ts pts) k.2.1 ∧ True) (fun k => pts.length - k.1) (0, (s, false)) ⟨by omega, rfl, hS, hE⟩ ?_
  rintro ⟨k,u,c⟩ ⟨hk,hf,hS2,hE2⟩
  dsimp only at hk hf hS2 hE2 ⊢
  have hsm : ∀ z,Sm u[z]! := pP hS2 (fun i A h => h.1) htl
  have hul := hS2.1
  repeat' (first|(apply aH;(apply m6;rfl;rfl;infer_instance;rfl;(apply xD <;> (first|assumption|omega|infer_instance));exact Pur.pf;rfl))|refine aB ?_|(refine aV ?_ ?_ <;> intro hc hq <;> try (exfalso;omega))|fail)
  ·have hkn : k < pts.length := by omega
   have hv := pA w hkn (hS2.2 k hkn).1
   have hvs : Sm (gA ts pts[k]! u[k]!) := ⟨Nat.lt_of_lt_of_le hv (Nat.pow_le_pow_right (by decide) (by omega))⟩
   have hvs' : Sm (gA ts pts[(k : Int).toNat]! u[k]!) := hvs
   have hnl := w.nl k hkn
   refine aL (σ := Nat × (List Nat × Bool)) [0,2,3,9,14,43,44,45,58,59] [] (fun j => [(60,iv (j.1 : Int)),(11,bv j.2.2)]) (fun j => [(0,some (flat cN j.2.1))]) (fun j => j.1 ≤ pts[k]!.next.length ∧ j.2 = ((rG pts k).take j.1).foldl (jK mC (gA ts pts[k]! u[k]!)) (u,c) ∧ SG pts (JZ ts pts) j.2.1 ∧ True) (fun j => pts[k]!.next.length - j.1) (0,(u,c)) ⟨by omega,rfl,hS2,hE2⟩ ?_
   rintro ⟨j,u2,c2⟩ ⟨hj,hf2,hS3,hE3⟩
   dsimp only at hj hf2 hS3 hE3 ⊢
   have hsm2 : ∀ z,Sm u2[z]! := pP hS3 (fun i A h => h.1) htl
   have hul2 := hS3.1
   have hz : j < pts[k]!.next.length → 0 ≤ pts[k]!.next[j]! ∧ pts[k]!.next[j]! < pts.length := fun h => w.nx k hkn _ (bU _ _ h)
   repeat' (first|refine aB ?_|(refine aV ?_ ?_ <;> intro hc hq <;> try (exfalso;omega))|fail)
   ·have hzz := hz (by omega)
    have hed : dC pts k (pts[k]!.next[j]!).toNat := ⟨hkn,by rw [Int.toNat_of_nonneg hzz.1]; exact bU _ _ (by omega)⟩
    have hne : mC u2[(pts[k]!.next[j]!).toNat]! (gA ts pts[k]! u[k]!) ≠ u2[(pts[k]!.next[j]!).toNat]! := fun h => hq (congrArg Int.ofNat h)
    (refine bT (j + 1,(_,true)) (Le.renA [(0,0)]) ?_ ?_)
    ·dsimp only
     refine ⟨by omega,?_,tX fl w (hS2.2 k hkn) hed hS3,trivial⟩
     rw [gO (by omega),← hf2,u5 hne]; rfl
    ·dsimp only;omega
   ·have hzz := hz (by omega)
    have hne : mC u2[(pts[k]!.next[j]!).toNat]! (gA ts pts[k]! u[k]!) = u2[(pts[k]!.next[j]!).toNat]! := Int.ofNat.inj hq
    (refine bT (j + 1,(u2,c2)) (Le.renA [(0,0)]) ?_ ?_)
    ·dsimp only
     refine ⟨by omega,?_,hS3,hE3⟩
     rw [gO (by omega),← hf2,tG hne]
    ·dsimp only;omega
   ·(refine bT (k + 1, (u2, c2)) (Le.renA [(0, 0)]) ?_ ?_)
    ·dsimp only
     refine ⟨by omega,?_,hS3,hE3⟩
     rw [dF,← hf,hf2,List.take_of_length_le (by rw [jN]; omega)]; rfl
    ·dsimp only;omega
  ·have law := pQ w fl s false hS
   have hfull : (u, c) = u7 mC (fun i A => gA ts pts[i]! A) pts (s, false) := by
    rw [hf,show k = pts.length by omega]; rfl
   rw [show u7 (fun a s => mC a s) (fun i A => gA ts pts[i]! A) pts (s,false) = (u,c) from hfull.symm] at law
   (refine bT (u,c) (Le.renA [(0,0)]) ?_ ?_)
   ·dsimp only
    refine ⟨hS2,hE2,fun h => ?_⟩
    rcases law.2 with ⟨e1,e2⟩ | ⟨e1,_⟩
    ·cases e1;exact e2
    ·dsimp only at e1;rw [h] at e1;cases e1
   ·dsimp only
    have hb : b = true := by assumption
    subst hb
    rcases law.2 with ⟨e1,e2⟩ | ⟨e1,e2⟩
    ·cases e1;simp
    ·dsimp only at e1 e2;subst e1;omega
 ·have hb : b = false := by assumption
  refine bK (Le.frzD (d := 8) (i := 0) rfl rfl) ?_
  refine aP rfl ⟨?_,(by (exact bD _ _))⟩
  simp only [aR]
  rw [Cg hA (DU w hS (hC hb))]
theorem Ah (ts:List Int) (bd:List AL.Stmt) (pts:List Pnt) (A:List Nat) (w:WG ts pts) (hA:oS ts pts A):PC Tryz.prog 141 [aG ts bd pts,iv 0,bv true,.clos (.func 142) [aG ts bd pts] []] (fun r => r = .imm pts.length (flat cN A)):=by
 have hpl := w.pl
 have hp0 := w.p0
 have htl := w.tl
 have fl := JV w
 refine aD Tryz.func141 Tryz.ntmps141 ?_
 repeat' (first|refine aB ?_|fail)
 refine aL (σ := Nat × List Nat) [0,1,2,3,9,26] [] (fun k => [(27,iv (k.1 : Int))]) (fun k => [(0,some (flat cN k.2))]) (fun k => k.1 ≤ pts.length ∧ k.2 = List.replicate k.1 (2 ^ ts.length - 1) ++ List.replicate (pts.length - k.1) 0) (fun k => pts.length - k.1) (0,List.replicate pts.length 0) ⟨by omega,by simp⟩ ?_
 rintro ⟨k0,u0⟩ ⟨hk0,hu0⟩
 dsimp only at hk0 hu0 ⊢
 have hul0 : u0.length = pts.length := by rw [hu0]; simp;omega
 repeat' (first|(apply aH;(apply aA (k := 176);rfl;(apply JT <;> (assumption));exact Pur.pf;rfl))|refine aB ?_|(refine aV ?_ ?_ <;> intro hc hq <;> try (exfalso;omega))|fail)
 ·(refine bT (k0 + 1, _) (Le.renA [(0, 0)]) ?_ ?_)
  ·dsimp only
   exact ⟨by omega,by rw [hu0]; exact Hn (by omega)⟩
  ·dsimp only;omega
 have hk1 : k0 = pts.length := by omega
 subst hk1
 rw [Nat.sub_self,List.replicate_zero,List.append_nil] at hu0
 refine aL (σ := List Nat × Bool) [0,2,3,9] [] (fun s => [(11,bv s.2)]) (fun s => [(0,some (flat cN s.1))]) (fun s => SG pts (Ju ts pts) s.1 ∧ s.1[0]! = 0 ∧ (s.2 = false → jQ IT (fun i A => gA ts pts[i]! A) pts s.1)) (fun s => 2 * eQ (s.1.map (fun a => a)) + s.2.toNat) ((u0.set 0 0),true) ⟨(Dn w hu0).1,(Dn w hu0).2,fun h => by cases h⟩ ?_
 rintro ⟨s,b⟩ ⟨hS,hE,hC⟩
 dsimp only at hS hE hC ⊢
 repeat' (first|refine aB ?_|(refine aV ?_ ?_ <;> intro hc hq <;> try (exfalso;omega))|fail)
 ·refine aL (σ := Nat × (List Nat × Bool)) [0, 2, 3, 9, 43, 44] [] (fun k => [(45, iv (k.1 : Int)), (11, bv k.2.2)]) (fun k => [(0, some (flat cN k.2.1))]) (fun k => k.1 ≤ pts.length ∧ k.2 = (List.range k.1).foldl (tL IT (fun i A => gA ts pts[i]! A) pts) (s, false) ∧ SG pts (Ju ts pts) k.2.1 ∧ k.2.1[0]! = 0) (fun k => pts.length - k.1) (0, (s, false)) ⟨by omega, rfl, hS, hE⟩ ?_
  rintro ⟨k,u,c⟩ ⟨hk,hf,hS2,hE2⟩
  dsimp only at hk hf hS2 hE2 ⊢
  have hsm : ∀ z,Sm u[z]! := pP hS2 (fun i A h => h.1) htl
  have hul := hS2.1
  repeat' (first|(apply aH;(apply m6;rfl;rfl;infer_instance;rfl;(apply xD <;> (first|assumption|omega|infer_instance));exact Pur.pf;rfl))|refine aB ?_|(refine aV ?_ ?_ <;> intro hc hq <;> try (exfalso;omega))|fail)
  ·have hkn : k < pts.length := by omega
   have hv := pA w hkn (hS2.2 k hkn).1
   have hvs : Sm (gA ts pts[k]! u[k]!) := ⟨Nat.lt_of_lt_of_le hv (Nat.pow_le_pow_right (by decide) (by omega))⟩
   have hvs' : Sm (gA ts pts[(k : Int).toNat]! u[k]!) := hvs
   have hnl := w.nl k hkn
   refine aL (σ := Nat × (List Nat × Bool)) [0,2,3,9,14,43,44,45,58,59] [] (fun j => [(60,iv (j.1 : Int)),(11,bv j.2.2)]) (fun j => [(0,some (flat cN j.2.1))]) (fun j => j.1 ≤ pts[k]!.next.length ∧ j.2 = ((rG pts k).take j.1).foldl (jK IT (gA ts pts[k]! u[k]!)) (u,c) ∧ SG pts (Ju ts pts) j.2.1 ∧ j.2.1[0]! = 0) (fun j => pts[k]!.next.length - j.1) (0,(u,c)) ⟨by omega,rfl,hS2,hE2⟩ ?_
   rintro ⟨j,u2,c2⟩ ⟨hj,hf2,hS3,hE3⟩
   dsimp only at hj hf2 hS3 hE3 ⊢
   have hsm2 : ∀ z,Sm u2[z]! := pP hS3 (fun i A h => h.1) htl
   have hul2 := hS3.1
   have hz : j < pts[k]!.next.length → 0 ≤ pts[k]!.next[j]! ∧ pts[k]!.next[j]! < pts.length := fun h => w.nx k hkn _ (bU _ _ h)
   repeat' (first|refine aB ?_|(refine aV ?_ ?_ <;> intro hc hq <;> try (exfalso;omega))|fail)
   ·have hzz := hz (by omega)
    have hed : dC pts k (pts[k]!.next[j]!).toNat := ⟨hkn,by rw [Int.toNat_of_nonneg hzz.1]; exact bU _ _ (by omega)⟩
    have hne : IT u2[(pts[k]!.next[j]!).toNat]! (gA ts pts[k]! u[k]!) ≠ u2[(pts[k]!.next[j]!).toNat]! := fun h => hq (congrArg Int.ofNat h)
    (refine bT (j + 1,(_,true)) (Le.renA [(0,0)]) ?_ ?_)
    ·dsimp only
     refine ⟨by omega,?_,tX fl w (hS2.2 k hkn) hed hS3,(by rw [cV _ _ _ _ (by rw [hS3.1]; exact cY w hed)]; split <;> first|exact hE3|(rename_i q;rw [← q,hE3]; exact Nat.zero_and _))⟩
     rw [gO (by omega),← hf2,u5 hne]; rfl
    ·dsimp only;omega
   ·have hzz := hz (by omega)
    have hne : IT u2[(pts[k]!.next[j]!).toNat]! (gA ts pts[k]! u[k]!) = u2[(pts[k]!.next[j]!).toNat]! := Int.ofNat.inj hq
    (refine bT (j + 1,(u2,c2)) (Le.renA [(0,0)]) ?_ ?_)
    ·dsimp only
     refine ⟨by omega,?_,hS3,hE3⟩
     rw [gO (by omega),← hf2,tG hne]
    ·dsimp only;omega
   ·(refine bT (k + 1, (u2, c2)) (Le.renA [(0, 0)]) ?_ ?_)
    ·dsimp only
     refine ⟨by omega,?_,hS3,hE3⟩
     rw [dF,← hf,hf2,List.take_of_length_le (by rw [jN]; omega)]; rfl
    ·dsimp only;omega
  ·have law := pQ w fl s false hS
   have hfull : (u, c) = u7 IT (fun i A => gA ts pts[i]! A) pts (s, false) := by
    rw [hf,show k = pts.length by omega]; rfl
   rw [show u7 (fun a s => IT a s) (fun i A => gA ts pts[i]! A) pts (s,false) = (u,c) from hfull.symm] at law
   (refine bT (u,c) (Le.renA [(0,0)]) ?_ ?_)
   ·dsimp only
    refine ⟨hS2,hE2,fun h => ?_⟩
    rcases law.2 with ⟨e1,e2⟩ | ⟨e1,_⟩
    ·cases e1;exact e2
    ·dsimp only at e1;rw [h] at e1;cases e1
   ·dsimp only
    have hb : b = true := by assumption
    subst hb
    rcases law.2 with ⟨e1,e2⟩ | ⟨e1,e2⟩
    ·cases e1;simp
    ·dsimp only at e1 e2;subst e1;omega
 ·have hb : b = false := by assumption
  refine bK (Le.frzD (d := 8) (i := 0) rfl rfl) ?_
  refine aP rfl ⟨?_,(by (exact bD _ _))⟩
  simp only [aR]
  rw [Dd hA (DO w hS hE (hC hb))]
theorem Dp (ts:List Int) (bd:List AL.Stmt) (pts:List Pnt) (A:List Nat) (w:WG ts pts) (hA:oS ts pts A):PC Tryz.prog 101 [aG ts bd pts,iv 0] (fun r => r = .imm pts.length (flat cN A)):=by
 refine aD Tryz.func101 Tryz.ntmps101 ?_
 repeat' (first|(apply aH;(apply aA (k := 141);rfl;exact Ah ts bd pts A w hA;exact Pur.pf;rfl))|refine aB ?_|refine dG ?_|fail)
 exact ⟨rfl,(by (exact bD _ _))⟩
theorem Gq (ts:List Int) (bd:List AL.Stmt) (pts:List Pnt) (A:List Nat) (w:WG ts pts) (hA:oQ ts pts A):PC Tryz.prog 149 [aG ts bd pts] (fun r => r = .imm pts.length (flat cN A)):=by
 refine aD Tryz.func149 Tryz.ntmps149 ?_
 repeat' (first|(apply aH;(apply aA (k := 141);rfl;exact zF ts bd pts A w hA;exact Pur.pf;rfl))|refine aB ?_|refine dG ?_|fail)
 exact ⟨rfl,(by (exact bD _ _))⟩
theorem Be (ts:List Int) (bd:List AL.Stmt) (pts:List Pnt) (n:Nat) (B:List Nat) (i:Int) (w:WG ts pts) (hn:n = B.length) (hB:B.length = pts.length) (hs:∀ z:Nat,Sm B[z]!) (hi:0 ≤ i ∧ i < pts.length):PC Tryz.prog 155 [aG ts bd pts,.imm n (flat cN B),iv i] (fun r => r = iv (GU pts B i.toNat:Nat)):=by
 subst hn
 have hin : i.toNat < pts.length := by omega
 have hnl := w.nl _ hin
 have hpl := w.pl
 refine aD Tryz.func155 Tryz.ntmps155 ?_
 repeat' (first|refine aB ?_|fail)
 refine aL (σ := Nat × Nat) [1,17,18] [] (fun k => [(19,iv (k.1 : Int)),(7,iv (k.2 : Int))]) (fun k => []) (fun k => k.1 ≤ pts[i.toNat]!.next.length ∧ k.2 = ((rG pts i.toNat).take k.1).foldl (fun a k => mC a B[k]!) 0 ∧ Sm k.2) (fun k => pts[i.toNat]!.next.length - k.1) (0,0) ⟨by omega,rfl,inferInstance⟩ ?_
 rintro ⟨k,a⟩ ⟨hk,ha,hsa⟩
 dsimp only at hk ha hsa ⊢
 have hz : k < pts[i.toNat]!.next.length → 0 ≤ pts[i.toNat]!.next[k]! ∧ pts[i.toNat]!.next[k]! < pts.length := fun h => w.nx _ hin _ (bU _ _ h)
 repeat' (first|refine aB ?_|(refine aV ?_ ?_ <;> intro hc hq <;> try (exfalso;omega))|refine dG ?_|fail)
 ·(refine bT (k + 1, _) (Le.renA []) ?_ ?_)
  ·dsimp only
   refine ⟨by omega,?_,inferInstance⟩
   rw [dP _ _ _ _ (by rw [jN]; omega),tN (by omega),← ha]
  ·dsimp only;omega
 ·(refine ⟨?_, rfl⟩; simp only [aR, AV.v.injEq, Value.bool.injEq, Value.int.injEq, true_and])
  rw [ha,List.take_of_length_le (by rw [jN]; omega)]; rfl
theorem EA (ts:List Int) (bd:List AL.Stmt) (pts:List Pnt) (A:List Nat) (w:WG ts pts) (hA:pT ts pts A):PC Tryz.prog 154 [aG ts bd pts] (fun r => r = .imm pts.length (flat cN A)):=by
 have hpl := w.pl
 have hp0 := w.p0
 have htl := w.tl
 refine aD Tryz.func154 Tryz.ntmps154 ?_
 repeat' (first|refine aB ?_|fail)
 refine aL (σ := List Nat × Bool) [0,3] [] (fun s => [(4,bv s.2)]) (fun s => [(0,some (flat cN s.1))]) (fun s => SN ts pts s.1 ∧ (s.2 = false → ∀ i,i < pts.length → nX ts pts s.1 i = s.1[i]!)) (fun s => 2 * eQ (s.1.map (fun a => 2 ^ ts.length - a)) + s.2.toNat) (List.replicate pts.length 0,true) ⟨Ix,fun h => by cases h⟩ ?_
 rintro ⟨s,b⟩ ⟨hS,hC⟩
 dsimp only at hS hC ⊢
 repeat' (first|refine aB ?_|(refine aV ?_ ?_ <;> intro hc hq <;> try (exfalso;omega))|fail)
 ·refine aL (σ := Nat × Int × (List Nat × Bool)) [0, 3] [] (fun k => [(5, iv k.2.1), (4, bv k.2.2.2)]) (fun k => [(0, some (flat cN k.2.2.1))]) (fun k => k.1 ≤ pts.length ∧ k.2.1 = (pts.length : Int) - 1 - k.1 ∧ k.2.2 = ((List.range pts.length).reverse.take k.1).foldl (jV ts pts) (s, false) ∧ SN ts pts k.2.2.1) (fun k => pts.length - k.1) (0, (pts.length : Int) - 1, (s, false)) ⟨by omega, by simp, rfl, hS⟩ ?_
  rintro ⟨k,z,u,c⟩ ⟨hk,hz,hf,hS2⟩
  dsimp only at hk hz hf hS2 ⊢
  have hsm : ∀ z : Nat,Sm u[z]! := pP hS2.1 (fun i A h => h.1) htl
  have hul := hS2.1.1
  have hst := fun h : z.toNat < pts.length => (w.set z.toNat h).1
  have hst2 : aU pts[z.toNat]! < 62 := by
   by_cases h : z.toNat < pts.length
   ·have := hst h;omega
   ·rw [getElem!_neg pts z.toNat h]; decide
  have hs1 : Sm (wS ts pts[z.toNat]! [1,2,3]) := dV (by omega)
  have hs2 : Sm (gG pts[z.toNat]!) := pE (by omega)
  have hs3 : Sm (GU pts u z.toNat) := by
   unfold GU
   have : ∀ (L : List Nat) (a : Nat), Sm a → Sm (L.foldl (fun a k => a ||| u[k]!) a) := by
    intro L;induction L with
    | nil => exact fun a h => h
    | cons x L ih => exact fun a h => ih _ (inferInstance : Sm (a ||| u[x]!))
   exact this _ _ inferInstance
  have hlaw := fun h : z.toNat < pts.length => sB w u c z.toNat h hS2
  repeat' (first|(apply aH;(first|(apply aA (k := 116);rfl;(apply DQ <;> (assumption));exact Pur.pf;rfl)|(apply aA (k := 178);rfl;(apply nL <;> (assumption));exact Pur.pf;rfl)|(apply Fb (k := 155);(case ha => rfl);(case hl => (repeat' (first|exact CD|apply Ab|exact HI|exact C3 rfl inferInstance|exact zQ inferInstance)));(case h => (apply Be <;> (first|assumption|omega)));(case hfr|hN => rfl);(case hmd => infer_instance))))|refine aB ?_|(refine aV ?_ ?_ <;> intro hc hq <;> try (exfalso;omega))|refine dH ?_|fail)
  ·have hzn : z.toNat < pts.length := by omega
   have hne : nX ts pts u z.toNat ≠ u[z.toNat]! := fun h => hq (congrArg Int.ofNat h)
   have hl := hlaw hzn
   rw [Bw hne] at hl
   have hrg : (List.range pts.length).reverse[k]! = z.toNat := by rw [xQ (by omega)]; omega
   (refine bT (k + 1,_,(_,true)) (Le.renA [(0,0)]) ?_ ?_)
   ·dsimp only
    refine ⟨by omega,by omega,?_,hl.1⟩
    rw [dP _ _ _ _ (by simp;omega),← hf,hrg,Bw hne]; rfl
   ·dsimp only;omega
  ·have hzn : z.toNat < pts.length := by omega
   have hne : nX ts pts u z.toNat = u[z.toNat]! := Int.ofNat.inj hq
   have hrg : (List.range pts.length).reverse[k]! = z.toNat := by rw [xQ (by omega)]; omega
   (refine bT (k + 1,_,(u,c)) (Le.renA [(0,0)]) ?_ ?_)
   ·dsimp only
    refine ⟨by omega,by omega,?_,hS2⟩
    rw [dP _ _ _ _ (by simp;omega),← hf,hrg,Gv hne]
   ·dsimp only;omega
  ·have law := Cb w s false hS
   have hfull : (u, c) = vS ts pts (s, false) := by
    rw [hf,List.take_of_length_le (by simp;omega)]; rfl
   rw [← hfull] at law
   (refine bT (u,c) (Le.renA [(0,0)]) ?_ ?_)
   ·dsimp only
    refine ⟨hS2,fun h => ?_⟩
    rcases law.2 with ⟨e1,e2⟩ | ⟨e1,_⟩
    ·cases e1;exact e2
    ·dsimp only at e1;rw [h] at e1;cases e1
   ·dsimp only
    have hb : b = true := by assumption
    subst hb
    rcases law.2 with ⟨e1,e2⟩ | ⟨e1,e2⟩
    ·cases e1;simp
    ·dsimp only at e1 e2;subst e1;omega
 ·have hb : b = false := by assumption
  refine bK (Le.frzD (d := 2) (i := 0) rfl rfl) ?_
  refine aP rfl ⟨?_,(by (exact bD _ _))⟩
  simp only [aR]
  rw [Ci hA (DW w hS (hC hb))]
theorem xY (ts:List Int) (bd:List AL.Stmt) (pts:List Pnt) (B A:List Nat) (w:WG ts pts) (hB:pT ts pts B) (hA:oU ts pts A):PC Tryz.prog 113 [aG ts bd pts] (fun r => r = .imm pts.length (flat cN A)):=by
 have hpl := w.pl
 have htl := w.tl
 have hBl := hB.1
 have hsm : ∀ z : Nat, Sm B[z]! := by
  intro z
  by_cases hz : z < pts.length
  ·refine ⟨Nat.lt_of_lt_of_le (Nat.lt_pow_two_of_testBit _ (n := 6) fun v hv => ?_) (by decide)⟩
   cases hq : B[z]!.testBit v with
   | false => rfl
   | true => have := rF w ((hB.2 z hz v).1 hq);dsimp only at this;omega
  ·rw [getElem!_neg B z (by rw [hBl]; exact hz)]; exact ⟨by decide⟩
 refine aD Tryz.func113 Tryz.ntmps113 ?_
 repeat' (first|(apply aH;(apply aA (k := 154);rfl;(apply EA <;> (assumption));exact Pur.pf;rfl))|refine aB ?_|fail)
 refine AW.le ?_ (Le.nilOwn (d := 4) 1 rfl (by decide))
 refine aL (σ := Nat × List Nat) [0,3,12] [] (fun k => [(13,iv (k.1 : Int)),(4,.own 0 0 k.1 1)]) (fun k => [(0,some (flat cN k.2))]) (fun k => k.1 ≤ pts.length ∧ k.2 = (List.range k.1).map (GU pts B)) (fun k => pts.length - k.1) (0,[]) ⟨by omega,rfl⟩ ?_
 rintro ⟨k,u⟩ ⟨hk,hu⟩
 dsimp only at hk hu ⊢
 have hul : u.length = k := by rw [hu]; simp
 repeat' (first|(apply aH;first|(apply aW (t := _);rfl;rfl;rfl;exact (rfl:_=some [_]);rfl;rfl)|(apply aA (k := 155);rfl;(apply Be <;> (first|assumption|omega));exact Pur.pf;rfl))|refine aB ?_|(refine aV ?_ ?_ <;> intro hc hq <;> try (exfalso;omega))|fail)
 ·(refine bT (k + 1, _) (Le.renA [(0, 2)]) ?_ ?_)
  ·dsimp only
   refine ⟨by omega,?_⟩
   rw [hu,List.range_succ,List.map_append]; rfl
  ·dsimp only;omega
 ·refine bK (Le.frzD (d := 2) (i := 0) rfl rfl) ?_
  refine aP rfl ⟨?_,(by (exact bD _ _))⟩
  simp only [aR]
  have hkn : k = pts.length := by omega
  subst hkn
  rw [rY hA (xX w hB),hu]
theorem AB (A:Nat) (hA:Sm A):PC Tryz.prog 100 [iv (A:Int)] (fun r => r = sl cI (bF A)):=by
 refine aD Tryz.func100 Tryz.ntmps100 ?_
 repeat' (first|refine aB ?_|fail)
 refine AW.le ?_ (Le.nilOwn (d := 3) 1 rfl (by decide))
 refine aL (σ := Nat × List Int × Nat) [0] [] (fun k => [(4,iv (k.1 : Int)),(3,.own 0 0 k.2.2 1)]) (fun k => [(0,some (flat cI k.2.1))]) (fun k => k.1 ≤ 62 ∧ k.2.1 = ((List.range k.1).filter (A.testBit ·)).map (fun v : Nat => (v : Int)) ∧ k.2.2 = k.2.1.length ∧ k.2.2 ≤ k.1) (fun k => 62 - k.1) (0,[],0) ⟨by omega,rfl,rfl,Nat.le_refl _⟩ ?_
 rintro ⟨k,u,m⟩ ⟨hk,hu,hm,hmk⟩
 dsimp only at hk hu hm hmk ⊢
 repeat' (first|(apply aH;(apply aW (t := _);rfl;rfl;rfl;exact (rfl:_=some [_]);rfl;rfl))|refine aB ?_|(refine aV ?_ ?_ <;> intro hc hq <;> try (exfalso;omega))|fail)
 ·have hlt := AU hA (show 0 < ((A >>> k : Nat) : Int) by assumption)
  (refine bT (k + 1,_,_) (Le.renA [(0,2)]) ?_ ?_)
  ·dsimp only
   exact ⟨by omega,tB hq hu,by simp;omega,by omega⟩
  ·dsimp only;omega
 ·have hlt := AU hA (show 0 < ((A >>> k : Nat) : Int) by assumption)
  (refine bT (k + 1,u,m) (Le.renA [(0,0)]) ?_ ?_)
  ·dsimp only
   exact ⟨by omega,rT hq hu,hm,by omega⟩
  ·dsimp only;omega
 ·(refine bK (Le.frzD (d := 2) (i := 0) rfl rfl) ?_; refine aP rfl ?_)
  refine ⟨?_,(by (exact bD _ _))⟩
  simp only [aR,sl]
  rw [n7 (k := k) (fun v hv => EH hq v hv) (by omega) hA,← hu,← hm]
theorem pZ (A:Nat) (hA:Sm A):PC Tryz.prog 151 [.v (.int .u64 (A:Int))] (fun r => r = sl cI (bF A)):=by
 refine aD Tryz.func151 Tryz.ntmps151 ?_
 repeat' (first|refine aB ?_|fail)
 refine AW.le ?_ (Le.nilOwn (d := 3) 1 rfl (by decide))
 refine aL (σ := Nat × List Int × Nat) [0] [] (fun k => [(5,iv (k.1 : Int)),(3,.own 0 0 k.2.2 1)]) (fun k => [(0,some (flat cI k.2.1))]) (fun k => k.1 ≤ 64 ∧ k.2.1 = ((List.range k.1).filter (A.testBit ·)).map (fun v : Nat => (v : Int)) ∧ k.2.2 = k.2.1.length ∧ k.2.2 ≤ k.1) (fun k => 64 - k.1) (0,[],0) ⟨by omega,rfl,rfl,Nat.le_refl _⟩ ?_
 rintro ⟨k,u,m⟩ ⟨hk,hu,hm,hmk⟩
 dsimp only at hk hu hm hmk ⊢
 repeat' (first|(apply aH;(apply aW (t := _);rfl;rfl;rfl;exact (rfl:_=some [_]);rfl;rfl))|refine aB ?_|(refine aV ?_ ?_ <;> intro hc hq <;> try (exfalso;omega))|fail)
 ·(refine bT (k + 1, _, _) (Le.renA [(0, 2)]) ?_ ?_)
  ·dsimp only
   exact ⟨by omega,tB hq hu,by simp;omega,by omega⟩
  ·dsimp only;omega
 ·(refine bT (k + 1, u, m) (Le.renA [(0, 0)]) ?_ ?_)
  ·dsimp only
   exact ⟨by omega,rT hq hu,hm,by omega⟩
  ·dsimp only;omega
 ·(refine bK (Le.frzD (d := 2) (i := 0) rfl rfl) ?_; refine aP rfl ?_)
  refine ⟨?_,(by (exact bD _ _))⟩
  simp only [aR,sl]
  rw [n7 (k := k) (fun v hv => Nat.testBit_lt_two_pow (Nat.lt_of_lt_of_le hA.pf (Nat.pow_le_pow_right (by decide) (by omega)))) (by omega) hA,← hu,← hm]
theorem xS (ts:List Int) (bd:List AL.Stmt) (pts:List Pnt) (V:Nat) (w:WG ts pts) (hV:Sm V):PC Tryz.prog 186 [aG ts bd pts,iv (V:Int)] (fun r => r = .v (.int .u64 (oV pts V:Nat))):=by
 have hpl := w.pl
 have htl := w.tl
 refine aD Tryz.func186 Tryz.ntmps186 ?_
 repeat' (first|refine aB ?_|fail)
 refine aL (σ := Nat × Nat) [1,11,12] [] (fun k => [(13,iv (k.1 : Int)),(5,.v (.int .u64 (k.2 : Int)))]) (fun k => []) (fun k => k.1 ≤ pts.length ∧ k.2 = eF (fun l => b7 pts[l]! && V.testBit (pts[l]!.y.toNat)) k.1) (fun k => pts.length - k.1) (0,0) ⟨by omega,rfl⟩ ?_
 rintro ⟨k,A⟩ ⟨hk,hA⟩
 dsimp only at hk hA ⊢
 have hsm : Sm A := hA ▸ dV (by omega)
 cases hln : b7 pts[k]!
 ·repeat' (first | (apply aH; (apply aA (k := 184);rfl;(apply kG);exact Pur.pf;rfl)) | refine aB ?_ | (refine aV ?_ ?_ <;> intro hc hq <;> try (exfalso; omega)) | refine dG ?_|fail)
  ·(refine bT (k + 1, A) (Le.renA []) ?_ ?_)
   ·dsimp only
    exact ⟨by omega,by rw [hA]; exact kU _ _ (by rw [hln]; rfl)⟩
   ·dsimp only;omega
  ·(refine ⟨?_, rfl⟩; simp only [aR, AV.v.injEq, Value.bool.injEq, Value.int.injEq, true_and])
   rw [hA,show k = pts.length by omega]; rfl
 ·have hy := fun (h : k < pts.length) => nT w h hln
  repeat' (first|(apply aH;first|(apply iN;rfl;rfl;infer_instance;omega;rfl;(case' kk => intro hsm))|(apply aA (k := 184);rfl;(apply kG);exact Pur.pf;rfl))|refine aB ?_|(refine aV ?_ ?_ <;> intro hc hq <;> try (exfalso;omega))|refine dG ?_|fail)
  ·(refine bT (k + 1, _) (Le.renA []) ?_ ?_)
   ·dsimp only
    exact ⟨by omega,by rw [hA]; exact oJ _ _ (by rw [hln,Bool.true_and]; exact (j7 _ _).1 hq)⟩
   ·dsimp only;omega
  ·(refine bT (k + 1, A) (Le.renA []) ?_ ?_)
   ·dsimp only
    exact ⟨by omega,by rw [hA]; exact kU _ _ (by rw [hln,Bool.true_and]; cases hb : V.testBit (pts[k]!.y.toNat) with|false => rfl|true => exact absurd ((j7 _ _).2 hb) hq)⟩
   ·dsimp only;omega
  ·(refine ⟨?_, rfl⟩; simp only [aR, AV.v.injEq, Value.bool.injEq, Value.int.injEq, true_and])
   rw [hA,show k = pts.length by omega]; rfl
theorem Ez (ts:List Int) (bd:List AL.Stmt) (pts:List Pnt) (A:List Nat) (w:WG ts pts) (hA:oH ts pts A):PC Tryz.prog 150 [aG ts bd pts] (fun r => r = .imm pts.length (flat cW A)):=by
 have hpl := w.pl
 have hp0 := w.p0
 have htl := w.tl
 have fl := J4 w
 refine aD Tryz.func150 Tryz.ntmps150 ?_
 repeat' (first|refine aB ?_|fail)
 refine aL (σ := List Nat × Bool) [0,3] [] (fun s => [(4,bv s.2)]) (fun s => [(0,some (flat cW s.1))]) (fun s => SG pts (JF ts pts) s.1 ∧ (s.2 = false → jQ mC (uE ts pts) pts s.1)) (fun s => 2 * eQ (s.1.map (fun a => 2 ^ pts.length - a)) + s.2.toNat) (List.replicate pts.length 0,true) ⟨z7 fun i hi => ⟨Nat.pow_pos (by decide),fun v h => by simp at h⟩,fun h => by cases h⟩ ?_
 rintro ⟨s,b⟩ ⟨hS,hC⟩
 dsimp only at hS hC ⊢
 repeat' (first|refine aB ?_|(refine aV ?_ ?_ <;> intro hc hq <;> try (exfalso;omega))|fail)
 ·refine aL (σ := Nat × (List Nat × Bool)) [0, 3, 20, 21] [] (fun k => [(22, iv (k.1 : Int)), (4, bv k.2.2)]) (fun k => [(0, some (flat cW k.2.1))]) (fun k => k.1 ≤ pts.length ∧ k.2 = (List.range k.1).foldl (tL mC (uE ts pts) pts) (s, false) ∧ SG pts (JF ts pts) k.2.1) (fun k => pts.length - k.1) (0, (s, false)) ⟨by omega, rfl, hS⟩ ?_
  rintro ⟨k,u,c⟩ ⟨hk,hf,hS2⟩
  dsimp only at hk hf hS2 ⊢
  have hul := hS2.1
  by_cases hkn : k < pts.length
  ·have hst := (w.set k hkn).1
   have hsm : ∀ z : Nat, Sm u[z]! := by
    intro z
    by_cases hz : z < pts.length
    ·exact ⟨Nat.lt_of_lt_of_le (hS2.2 z hz).1 (Nat.pow_le_pow_right (by decide) (by omega))⟩
    ·rw [getElem!_neg u z (by rw [hul]; exact hz)]; exact ⟨by decide⟩
   have hs1 : Sm (wS ts pts[k]! [2]) := dV (by omega)
   have hs2 : Sm (gG pts[k]!) := pE (by omega)
   have hs3 : ∀ V,Sm (oV pts V) := fun V => Du w V
   have hnl := w.nl k hkn
   have e1 : b7 pts[k]! = true → lP u[k]! (oV pts (wS ts pts[k]! [2] ||| gG pts[k]!)) ||| 2 ^ (k : Int).toNat = uE ts pts k u[k]! := fun h => by unfold uE Jm;rw [if_pos h]; rfl
   have e0 : b7 pts[k]! = false → lP u[k]! (oV pts (wS ts pts[k]! [2] ||| gG pts[k]!)) = uE ts pts k u[k]! := fun h => by unfold uE Jm;rw [if_neg (by rw [h]; simp),Nat.or_zero]
   have hps : Sm (uE ts pts k u[k]!) := ⟨Nat.lt_of_lt_of_le (Aj w hkn (hS2.2 k hkn).1) (Nat.pow_le_pow_right (by decide) (by omega))⟩
   repeat' (first|(apply aH;first|(apply iN;rfl;rfl;infer_instance;omega;rfl;(case' kk => intro hsm))|(first|(apply aA (k := 177);rfl;(apply pD <;> (assumption));exact Pur.pf;rfl)|(apply aA (k := 178);rfl;(apply nL <;> (omega));exact Pur.pf;rfl)|(apply aA (k := 184);rfl;(apply kG);exact Pur.pf;rfl)|(apply aA (k := 186);rfl;(apply xS <;> (first|assumption|infer_instance));exact Pur.pf;rfl)))|refine aB ?_|(refine aV ?_ ?_ <;> intro hc hq <;> try (exfalso;omega))|refine dH ?_|fail)
   all_goals first|rw [e1 (by assumption)]|rw [e0 (by assumption)]
   all_goals
    refine aL (σ := Nat × (List Nat × Bool)) [0,3,7,20,21,22,47,48] [] (fun j => [(49,iv (j.1 : Int)),(4,bv j.2.2)]) (fun j => [(0,some (flat cW j.2.1))]) (fun j => j.1 ≤ pts[k]!.next.length ∧ j.2 = ((rG pts k).take j.1).foldl (jK mC (uE ts pts k u[k]!)) (u,c) ∧ SG pts (JF ts pts) j.2.1) (fun j => pts[k]!.next.length - j.1) (0,(u,c)) ⟨by omega,rfl,hS2⟩ ?_
    rintro ⟨j,u2,c2⟩ ⟨hj,hf2,hS3⟩
    dsimp only at hj hf2 hS3 ⊢
    have hul2 := hS3.1
    have hsm2 : ∀ z : Nat, Sm u2[z]! := by
     intro z
     by_cases hz : z < pts.length
     ·exact ⟨Nat.lt_of_lt_of_le (hS3.2 z hz).1 (Nat.pow_le_pow_right (by decide) (by omega))⟩
     ·rw [getElem!_neg u2 z (by rw [hul2]; exact hz)]; exact ⟨by decide⟩
    have hz : j < pts[k]!.next.length → 0 ≤ pts[k]!.next[j]! ∧ pts[k]!.next[j]! < pts.length := fun h => w.nx k hkn _ (bU _ _ h)
    repeat' (first|refine aB ?_|(refine aV ?_ ?_ <;> intro hc hq <;> try (exfalso;omega))|refine dH ?_|fail)
    ·have hzz := hz (by omega)
     have hed : dC pts k (pts[k]!.next[j]!).toNat := ⟨hkn,by rw [Int.toNat_of_nonneg hzz.1]; exact bU _ _ (by omega)⟩
     have hne : mC u2[(pts[k]!.next[j]!).toNat]! (uE ts pts k u[k]!) ≠ u2[(pts[k]!.next[j]!).toNat]! := fun h => hq (congrArg Int.ofNat h)
     (refine bT (j + 1,(_,true)) (Le.renA [(0,0)]) ?_ ?_)
     ·dsimp only
      refine ⟨by omega,?_,tX fl w (hS2.2 k hkn) hed hS3⟩
      rw [gO (by omega),← hf2,u5 hne]
     ·dsimp only;omega
    ·have hzz := hz (by omega)
     have hne : mC u2[(pts[k]!.next[j]!).toNat]! (uE ts pts k u[k]!) = u2[(pts[k]!.next[j]!).toNat]! := Int.ofNat.inj hq
     (refine bT (j + 1,(u2,c2)) (Le.renA [(0,0)]) ?_ ?_)
     ·dsimp only
      refine ⟨by omega,?_,hS3⟩
      rw [gO (by omega),← hf2,tG hne]
     ·dsimp only;omega
    ·(refine bT (k + 1, (u2, c2)) (Le.renA [(0, 0)]) ?_ ?_)
     ·dsimp only
      refine ⟨by omega,?_,hS3⟩
      rw [dF,← hf,hf2,List.take_of_length_le (by rw [jN]; omega)]; rfl
     ·dsimp only;omega
  ·repeat' (first | refine aB ?_ | (refine aV ?_ ?_ <;> intro hc hq <;> try (exfalso; omega))|fail)
   have law := pQ w fl s false hS
   have hfull : (u, c) = u7 mC (uE ts pts) pts (s, false) := by
    rw [hf,show k = pts.length by omega]; rfl
   rw [← hfull] at law
   (refine bT (u,c) (Le.renA [(0,0)]) ?_ ?_)
   ·dsimp only
    refine ⟨hS2,fun h => ?_⟩
    rcases law.2 with ⟨e1,e2⟩ | ⟨e1,_⟩
    ·cases e1;exact e2
    ·dsimp only at e1;rw [h] at e1;cases e1
   ·dsimp only
    have hb : b = true := by assumption
    subst hb
    rcases law.2 with ⟨e1,e2⟩ | ⟨e1,e2⟩
    ·cases e1;simp
    ·dsimp only at e1 e2;subst e1;omega
 ·have hb : b = false := by assumption
  refine bK (Le.frzD (d := 2) (i := 0) rfl rfl) ?_
  refine aP rfl ⟨?_,(by (exact bD _ _))⟩
  simp only [aR]
  rw [Dc hA (EB w hS (hC hb))]
theorem Ak (ts:List Int) (bd:List AL.Stmt) (pts:List Pnt) (i:Int) (f:List Nat) (w:WG ts pts) (hi:0 ≤ i ∧ i < pts.length) (hf:f.length = 6) (hs:∀ z:Nat,Sm f[z]!):PC Tryz.prog 148 [aG ts bd pts,iv i,.agg (flat cW f)] (fun r => r = .agg (flat cW (u9 ts pts i.toNat f))):=by
 have hpl := w.pl
 have htl := w.tl
 have hin : i.toNat < pts.length := by omega
 have hst := (w.set i.toNat hin)
 have hy := w.y i.toNat hin
 have hbl := jA (wS ts pts[i.toNat]! [2])
 have hT : Sm (wS ts pts[i.toNat]! [2]) := dV (by omega)
 refine aD Tryz.func148 Tryz.ntmps148 ?_
 repeat' (first|(apply aH;(first|(apply aA (k := 100);rfl;(apply AB <;> (assumption));(rfl);rfl)|(apply aA (k := 177);rfl;(apply pD <;> (assumption));exact Pur.pf;rfl)))|refine aB ?_|fail)
 refine aL (σ := Nat × List Nat) [0,1,5,6,7,8,23,24] [0,1,2] (fun k => [(25,iv (k.1 : Int))]) (fun k => [(3,some (flat cW k.2))]) (fun k => k.1 ≤ (bF (wS ts pts[i.toNat]! [2])).length ∧ k.2 = mE ((bF (wS ts pts[i.toNat]! [2])).take k.1) f ∧ k.2.length = 6) (fun k => (bF (wS ts pts[i.toNat]! [2])).length - k.1) (0,f) ⟨by omega,rfl,hf⟩ ?_
 rintro ⟨k,u⟩ ⟨hk,hu,hul⟩
 dsimp only at hk hu hul ⊢
 have hbb : k < (bF (wS ts pts[i.toNat]! [2])).length → 0 ≤ (bF (wS ts pts[i.toNat]! [2]))[k]! ∧ (bF (wS ts pts[i.toNat]! [2]))[k]! < ts.length := fun h => kI (s7 (fun v => decide (bB ts pts[i.toNat]! v ∈ [2])) ts.length) h
 have husm : ∀ z : Nat,Sm u[z]! := by intro z;rw [hu]; exact IP hs z
 have hset : ∀ (k a : Nat) [Sm a] (z : Nat),Sm (u.set k a)[z]! := fun k a h z => zM husm h z
 have hset2 : ∀ (k a k2 a2 : Nat) [Sm a] [Sm a2] (z : Nat),Sm ((u.set k a).set k2 a2)[z]! := fun k a k2 a2 h h2 z => zM (zM husm h) h2 z
 by_cases hkn : k < (bF (wS ts pts[i.toNat]! [2])).length
 ·have hbk := hbb hkn
  repeat' (first|refine aB ?_|(refine aV ?_ ?_ <;> intro hc hq <;> try (exfalso;omega))|fail)
  (refine bT (k + 1,u.set ((bF (wS ts pts[i.toNat]! [2]))[k]!).toNat 0) (Le.renA [(0,0),(1,1),(2,2),(3,3)]) ?_ ?_)
  ·dsimp only
   exact ⟨by omega,by rw [C0 hkn,← hu],by simpa using hul⟩
  ·dsimp only;omega
 ·have hu' : u = mE (bF (wS ts pts[i.toNat]! [2])) f := by rw [hu, List.take_of_length_le (by omega)]
  cases hln : b7 pts[i.toNat]!
  ·repeat' (first | (apply aH; (first | (apply aA (k := 183);rfl;(apply vH);exact Pur.pf;rfl) | (apply aA (k := 184);rfl;(apply kG);exact Pur.pf;rfl))) | refine aB ?_ | (refine aV ?_ ?_ <;> intro hc hq <;> try (exfalso; omega)) | refine dH ?_|fail)
   all_goals (refine aP (l3 (z := 6) rfl rfl (by first|exact hul|(simp only [List.length_set]; exact hul)) (by decide)) ⟨?_,(by (exact bD _ _))⟩)
   all_goals simp only [aR,u9,← hu',hln,Bool.false_eq_true,false_and,false_or,if_false]
   all_goals congr 2
   all_goals grind
  ·have hop := mW hln
   repeat' (first|(apply aH;first|(apply iN;rfl;rfl;infer_instance;omega;rfl;(case' kk => intro hsm))|(first|(apply aA (k := 183);rfl;(apply vH);exact Pur.pf;rfl)|(apply aA (k := 184);rfl;(apply kG);exact Pur.pf;rfl)|(apply aA (k := 185);rfl;(apply vY);(rfl);rfl)))|refine aB ?_|(refine aV ?_ ?_ <;> intro hc hq <;> try (exfalso;omega))|(refine dB ?_ ?_ <;> intro hg hq <;> try (exfalso;omega))|refine dH ?_|fail)
   all_goals (refine aP (l3 (z := 6) rfl rfl (by first|exact hul|(simp only [List.length_set]; exact hul)) (by decide)) ⟨?_,(by (exact bD _ _))⟩)
   all_goals simp only [aR,u9,← hu',hln,true_and,if_true]
   all_goals congr 2
   all_goals grind
theorem CY (ts:List Int) (bd:List AL.Stmt) (pts:List Pnt) (A:List Nat) (w:WG ts pts) (hA:oM ts pts A):PC Tryz.prog 111 [aG ts bd pts] (fun r => r = .imm pts.length (flat cW A)):=by
 have hpl := w.pl
 have hp0 := w.p0
 have htl := w.tl
 refine aD Tryz.func111 Tryz.ntmps111 ?_
 repeat' (first|refine aB ?_|fail)
 refine aL (σ := List Nat × Bool) [0,3] [] (fun s => [(4,bv s.2)]) (fun s => [(0,some (flat cW s.1))]) (fun s => SF ts pts s.1 ∧ (s.2 = false → tU ts pts s.1)) (fun s => 2 * eQ (s.1.map (fun x => 2 ^ pts.length - x)) + s.2.toNat) (List.replicate (pts.length * 6) 0,true) ⟨Jp,fun h => by cases h⟩ ?_
 rintro ⟨s,b⟩ ⟨hS,hC⟩
 dsimp only at hS hC ⊢
 repeat' (first|refine aB ?_|(refine aV ?_ ?_ <;> intro hc hq <;> try (exfalso;omega))|fail)
 ·refine aL (σ := Nat × (List Nat × Bool)) [0, 3, 22, 23] [] (fun k => [(24, iv (k.1 : Int)), (4, bv k.2.2)]) (fun k => [(0, some (flat cW k.2.1))]) (fun k => k.1 ≤ pts.length ∧ k.2 = (List.range k.1).foldl (zN ts pts) (s, false) ∧ SF ts pts k.2.1) (fun k => pts.length - k.1) (0, (s, false)) ⟨by omega, rfl, hS⟩ ?_
  rintro ⟨i,u,c⟩ ⟨hk,hf,hS2⟩
  dsimp only at hk hf hS2 ⊢
  have hul := hS2.1
  have hsm : ∀ z : Nat,Sm u[z]! := HV w hS2
  by_cases hin : i < pts.length
  ·have hnl := w.nl i hin
   have hrl : ((u.drop (i * 6)).take 6).length = 6 := fA hul hin
   have hrs : ∀ z : Nat, Sm ((u.drop (i * 6)).take 6)[z]! := by
    intro z
    by_cases hz : z < 6
    ·have := fO hul hin hz;unfold dW at this;rw [this]; exact hsm _
    ·rw [getElem!_neg _ z (by rw [hrl]; exact hz)]; exact ⟨by decide⟩
   have hcl : (u9 ts pts (i : Int).toNat ((u.drop (i * 6)).take 6)).length = 6 := (HL ts pts i ((u.drop (i * 6)).take 6)).trans hrl
   repeat' (first|(apply aH;(apply aA (k := 148);rfl;(apply Ak <;> (first|assumption|omega));exact Pur.pf;rfl))|refine aB ?_|(refine aV ?_ ?_ <;> intro hc hq <;> try (exfalso;omega))|fail)
   generalize hcf : u9 ts pts (i : Int).toNat ((u.drop (i * 6)).take 6) = a at hcl
   have hcf' : u9 ts pts i (dW u i) = a := hcf
   have hasnd : ∀ k,dC pts i k → ∀ v,v < 6 → JI ts pts k v a[v]! := fun k e v hv => by rw [← hcf']; exact BE w hS2 e hv
   refine aL (σ := Nat × (List Nat × Bool)) [0,3,7,22,23,24,37,38] [2] (fun j => [(39,iv (j.1 : Int)),(4,bv j.2.2)]) (fun j => [(0,some (flat cW j.2.1))]) (fun j => j.1 ≤ pts[i]!.next.length ∧ j.2 = ((rG pts i).take j.1).foldl (rR a) (u,c) ∧ SF ts pts j.2.1) (fun j => pts[i]!.next.length - j.1) (0,(u,c)) ⟨by omega,rfl,hS2⟩ ?_
   rintro ⟨j,u2,c2⟩ ⟨hj,hf2,hS3⟩
   dsimp only at hj hf2 hS3 ⊢
   have hul2 := hS3.1
   by_cases hjn : j < pts[i]!.next.length
   ·have hzz : 0 ≤ pts[i]!.next[j]! ∧ pts[i]!.next[j]! < pts.length := w.nx i hin _ (bU _ _ hjn)
    have hed : dC pts i (pts[i]!.next[j]!).toNat := ⟨hin,by rw [Int.toNat_of_nonneg hzz.1]; exact bU _ _ hjn⟩
    have hap := hasnd _ hed
    have hasm : ∀ z : Nat, Sm a[z]! := by
     intro z
     by_cases hz : z < 6
     ·exact ⟨Nat.lt_of_lt_of_le (hap z hz).1 (Nat.pow_le_pow_right (by decide) (by omega))⟩
     ·rw [getElem!_neg a z (by rw [hcl]; exact hz)]; exact ⟨by decide⟩
    repeat' (first|refine aB ?_|(refine aV ?_ ?_ <;> intro hc hq <;> try (exfalso;omega))|fail)
    refine aL (σ := Nat × (List Nat × Bool)) [0,3,7,9,22,23,24,37,38,39,43] [2] (fun v => [(44,iv (v.1 : Int)),(4,bv v.2.2)]) (fun v => [(0,some (flat cW v.2.1))]) (fun v => v.1 ≤ 6 ∧ v.2 = (List.range v.1).foldl (nR a (pts[i]!.next[j]!).toNat) (u2,c2) ∧ SF ts pts v.2.1) (fun v => 6 - v.1) (0,(u2,c2)) ⟨by omega,rfl,hS3⟩ ?_
    rintro ⟨v,u3,c3⟩ ⟨hv,hf3,hS4⟩
    dsimp only at hv hf3 hS4 ⊢
    have hul3 := hS4.1
    have hsm3 : ∀ z : Nat,Sm u3[z]! := HV w hS4
    by_cases hvn : v < 6
    ·have hlaw := yC (cY w hed) hap u3 c3 v hvn hS4
     repeat' (first|refine aB ?_|(refine aV ?_ ?_ <;> intro hc hq <;> try (exfalso;omega))|refine dH ?_|fail)
     ·have hne : mC u3[(pts[i]!.next[j]!).toNat * 6 + v]! a[v]! ≠ u3[(pts[i]!.next[j]!).toNat * 6 + v]! := fun h => hq (congrArg Int.ofNat h)
      have e1 : nR a (pts[i]!.next[j]!).toNat (u3,c3) v = (u3.set ((pts[i]!.next[j]!).toNat * 6 + v) (mC u3[(pts[i]!.next[j]!).toNat * 6 + v]! a[v]!),true) := u5 hne
      rw [e1] at hlaw
      (refine bT (v + 1,(_,true)) (Le.renA [(0,0),(2,2)]) ?_ ?_)
      ·dsimp only
       refine ⟨by omega,?_,hlaw.1⟩
       rw [tA,← hf3,e1]; rfl
      ·dsimp only;omega
     ·have hne : mC u3[(pts[i]!.next[j]!).toNat * 6 + v]! a[v]! = u3[(pts[i]!.next[j]!).toNat * 6 + v]! := Int.ofNat.inj hq
      have e1 : nR a (pts[i]!.next[j]!).toNat (u3,c3) v = (u3,c3) := tG hne
      (refine bT (v + 1,(u3,c3)) (Le.renA [(0,0),(2,2)]) ?_ ?_)
      ·dsimp only
       refine ⟨by omega,?_,hS4⟩
       rw [tA,← hf3,e1]
      ·dsimp only;omega
    ·have hv6 : v = 6 := by omega
     subst hv6
     repeat' (first|refine aB ?_|fail)
     (refine bT (j + 1,(u3,c3)) (Le.renA [(0,0),(2,2)]) ?_ ?_)
     ·dsimp only
      refine ⟨by omega,?_,hS4⟩
      rw [CM hjn,← hf2,hf3]; rfl
     ·dsimp only;omega
   ·repeat' (first | refine aB ?_ | (refine aV ?_ ?_ <;> intro hc hq <;> try (exfalso; omega))|fail)
    (refine bT (i + 1,(u2,c2)) (Le.renA [(0,0)]) ?_ ?_)
    ·dsimp only
     refine ⟨by omega,?_,hS3⟩
     rw [dF,← hf,hf2,List.take_of_length_le (by rw [jN]; omega),← hcf']; rfl
    ·dsimp only;omega
  ·repeat' (first | refine aB ?_ | (refine aV ?_ ?_ <;> intro hc hq <;> try (exfalso; omega))|fail)
   have law := DS w s false hS
   have hfull : (u, c) = FJ ts pts (s, false) := by
    rw [hf,show i = pts.length by omega]; rfl
   rw [← hfull] at law
   (refine bT (u,c) (Le.renA [(0,0)]) ?_ ?_)
   ·dsimp only
    refine ⟨hS2,fun h => ?_⟩
    rcases law.2 with ⟨e1,e2⟩ | ⟨e1,_⟩
    ·cases e1;exact e2
    ·dsimp only at e1;rw [h] at e1;cases e1
   ·dsimp only
    have hb : b = true := by assumption
    subst hb
    rcases law.2 with ⟨e1,e2⟩ | ⟨e1,e2⟩
    ·cases e1;simp
    ·dsimp only at e1 e2;subst e1;omega
 ·have hb : b = false := by assumption
  refine bK (Le.frzD (d := 2) (i := 0) rfl rfl) ?_
  refine aP rfl ⟨?_,(by (exact bD _ _))⟩
  simp only [aR]
  rw [C5 hA (FV w hS (hC hb))]
theorem H7 (ts:List Int) (bd:List AL.Stmt) (pts:List Pnt) (i:Int) (lv:Nat) (f:List Nat) (w:WG ts pts) (hi:0 ≤ i ∧ i < pts.length) (hlv:lv < 2 ^ ts.length) (hf:f.length = 6) (hs:∀ z:Nat,Sm f[z]!):PC Tryz.prog 153 [aG ts bd pts,iv i,iv (lv:Int),.agg (flat cW f)] (fun r => r = .v (.int .u64 (vL ts pts[i.toNat]! lv f:Nat))):=by
 have hpl := w.pl
 have htl := w.tl
 have hin : i.toNat < pts.length := by omega
 have hst := (w.set i.toNat hin)
 have hsl : Sm lv := ⟨Nat.lt_of_lt_of_le hlv (Nat.pow_le_pow_right (by decide) (by omega))⟩
 have hT : Sm (wS ts pts[i.toNat]! [2]) := dV (by omega)
 have hB : Sm (gG pts[i.toNat]!) := pE (by omega)
 have hbl := jA (lP lv (wS ts pts[i.toNat]! [2] ||| gG pts[i.toNat]!))
 have hlt : lP lv (wS ts pts[i.toNat]! [2] ||| gG pts[i.toNat]!) < 2 ^ ts.length := Nat.xor_lt_two_pow hlv (Nat.lt_of_le_of_lt Nat.and_le_left hlv)
 refine aD Tryz.func153 Tryz.ntmps153 ?_
 repeat' (first|(apply aH;(first|(apply aA (k := 100);rfl;(apply AB <;> (infer_instance));(rfl);rfl)|(apply aA (k := 177);rfl;(apply pD <;> (assumption));exact Pur.pf;rfl)|(apply aA (k := 178);rfl;(apply nL <;> (omega));exact Pur.pf;rfl)))|refine aB ?_|refine dH ?_|fail)
 refine aL (σ := Nat × Nat) [7,28,29] [0] (fun k => [(30,iv (k.1 : Int)),(10,.v (.int .u64 (k.2 : Int)))]) (fun k => []) (fun k => k.1 ≤ (bF (lP lv (wS ts pts[i.toNat]! [2] ||| gG pts[i.toNat]!))).length ∧ k.2 = Jz f ((bF (lP lv (wS ts pts[i.toNat]! [2] ||| gG pts[i.toNat]!))).take k.1) 0 ∧ Sm k.2) (fun k => (bF (lP lv (wS ts pts[i.toNat]! [2] ||| gG pts[i.toNat]!))).length - k.1) (0,0) ⟨by omega,rfl,inferInstance⟩ ?_
 rintro ⟨k,a⟩ ⟨hk,ha,hsa⟩
 dsimp only at hk ha hsa ⊢
 have hbb : k < (bF (lP lv (wS ts pts[i.toNat]! [2] ||| gG pts[i.toNat]!))).length → 0 ≤ (bF (lP lv (wS ts pts[i.toNat]! [2] ||| gG pts[i.toNat]!)))[k]! ∧ (bF (lP lv (wS ts pts[i.toNat]! [2] ||| gG pts[i.toNat]!)))[k]! < ts.length := fun h => kI hlt h
 repeat' (first|refine aB ?_|(refine aV ?_ ?_ <;> intro hc hq <;> try (exfalso;omega))|fail)
 ·(refine bT (k + 1, _) (Le.renA [(0, 0)]) ?_ ?_)
  ·dsimp only
   refine ⟨by omega,?_,inferInstance⟩
   rw [ha]; unfold Jz;rw [dP _ _ _ _ (by omega)]
  ·dsimp only;omega
 ·refine aP rfl ⟨?_, rfl⟩
  simp only [aR]
  rw [ha,List.take_of_length_le (by omega)]; rfl
theorem Au (ts:List Int) (bd:List AL.Stmt) (pts:List Pnt) (x:Pnt) (mb:Nat) (htl:ts.length ≤ 6) (hmb:Sm mb) (hst:aU x < ts.length) (hy:0 ≤ x.y ∧ (3 ≤ x.op → x.op ≤ 7 → x.y < ts.length)):PC Tryz.prog 187 [aG ts bd pts,oB x,iv (mb:Int)] (fun r => r = sl B0 (gK ts x (mb.testBit (aU x).toNat))):=by
 refine aD Tryz.func187 Tryz.ntmps187 ?_
 repeat' (first|(apply aH;first|(apply cP (d := 7) (e := 2);rfl;rfl)|(first|(apply aA (k := 183);rfl;(apply vH);exact Pur.pf;rfl)|(apply aA (k := 201);rfl;(apply AP <;> (omega));exact Pur.pf;rfl)))|refine aB ?_|(refine aV ?_ ?_ <;> intro hc hq <;> try (exfalso;omega))|(refine dB ?_ ?_ <;> intro hg hq <;> try (exfalso;omega))|fail)
 all_goals first|refine bK (Le.frzD (d := 6) (i := 1) rfl rfl) ?_|refine bK (Le.frzD (d := 6) (i := 3) rfl rfl) ?_|refine bK (Le.frzD (d := 6) (i := 5) rfl rfl) ?_
 all_goals refine aP rfl ⟨?_,(by (rfl))⟩
 all_goals simp only [aR,gK]
 all_goals have h1 := j7 mb (aU x).toNat
 all_goals (try (rw [if_neg (show ¬ (0 ≤ aU x ∧ ts[(aU x).toNat]! = 2 ∧ mb.testBit (aU x).toNat = true) from fun h => by omega)]))
 all_goals (simp_all <;> rfl)
theorem BP (ts:List Int) (bd:List AL.Stmt) (pts:List Pnt) (i:Int) (mb loans:Nat) (w:WG ts pts) (hi:0 ≤ i ∧ i < pts.length) (hmb:Sm mb) (hlo:loans < 2 ^ pts.length):PC Tryz.prog 152 [aG ts bd pts,iv i,iv (mb:Int),.v (.int .u64 (loans:Int))] (fun r => r = .v (.int .u64 (F7 pts loans (gK ts pts[i.toNat]! (mb.testBit (aU pts[i.toNat]!).toNat)) 0:Nat))):=by
 have hpl := w.pl
 have htl := w.tl
 have hin : i.toNat < pts.length := by omega
 have hst := (w.set i.toNat hin).1
 have hy := w.y i.toNat hin
 have hx := w.x i.toNat hin
 have hop := w.op i.toNat hin
 have hlsm : Sm loans := ⟨Nat.lt_of_lt_of_le hlo (Nat.pow_le_pow_right (by decide) (by omega))⟩
 have hacc := BH (mb.testBit (aU pts[i.toNat]!).toNat) w hin
 have hal := xC ts pts[i.toNat]! (mb.testBit (aU pts[i.toNat]!).toNat)
 refine aD Tryz.func152 Tryz.ntmps152 ?_
 repeat' (first|(apply aH;(apply aA (k := 187);rfl;(apply Au <;> (assumption));exact Pur.pf;rfl))|refine aB ?_|fail)
 generalize gK ts pts[i.toNat]! (mb.testBit (aU pts[i.toNat]!).toNat) = acs at hacc hal
 refine aL (σ := Nat × Nat) [0,3,23,24] [] (fun k => [(25,iv (k.1 : Int)),(9,.v (.int .u64 (k.2 : Int)))]) (fun k => []) (fun k => k.1 ≤ acs.length ∧ k.2 = F7 pts loans (acs.take k.1) 0 ∧ k.2 < 2 ^ pts.length) (fun k => acs.length - k.1) (0,0) ⟨by omega,rfl,Nat.pow_pos (by decide)⟩ ?_
 rintro ⟨k,a⟩ ⟨hk,ha,hab⟩
 dsimp only at hk ha hab ⊢
 by_cases hkn : k < acs.length
 ·have hcv := hacc _ (bU acs k hkn)
  have hof : ∀ V,Sm (oV pts V) := fun V => Du w V
  have hll := jA (loans &&& oV pts (2 ^ (acs[k]!.var).toNat))
  have hlb : loans &&& oV pts (2 ^ (acs[k]!.var).toNat) < 2 ^ pts.length := Nat.lt_of_le_of_lt Nat.and_le_left hlo
  have htk := dP (fun a c => Hz pts c.write (bF (loans &&& oV pts (2 ^ c.var.toNat))) a) acs 0 k hkn
  repeat' (first|(apply aH;first|(apply iN;rfl;rfl;infer_instance;omega;rfl;(case' kk => intro hsm))|(first|(apply aA (k := 151);rfl;(apply pZ <;> (infer_instance));(rfl);rfl)|(apply aA (k := 186);rfl;(apply xS <;> (assumption));exact Pur.pf;rfl)))|refine aB ?_|(refine aV ?_ ?_ <;> intro hc hq <;> try (exfalso;omega))|fail)
  refine aL (σ := Nat × Nat) [0,3,11,23,24,25,36,37] [0] (fun j => [(38,iv (j.1 : Int)),(9,.v (.int .u64 (j.2 : Int)))]) (fun j => []) (fun j => j.1 ≤ (bF (loans &&& oV pts (2 ^ (acs[k]!.var).toNat))).length ∧ j.2 = Hz pts acs[k]!.write ((bF (loans &&& oV pts (2 ^ (acs[k]!.var).toNat))).take j.1) a ∧ j.2 < 2 ^ pts.length) (fun j => (bF (loans &&& oV pts (2 ^ (acs[k]!.var).toNat))).length - j.1) (0,a) ⟨by omega,rfl,hab⟩ ?_
  rintro ⟨j,b⟩ ⟨hj,hb,hbb⟩
  dsimp only at hj hb hbb ⊢
  have hbsm : Sm b := ⟨Nat.lt_of_lt_of_le hbb (Nat.pow_le_pow_right (by decide) (by omega))⟩
  by_cases hjn : j < (bF (loans &&& oV pts (2 ^ (acs[k]!.var).toNat))).length
  ·have hlz := kI hlb hjn
   have hstep : Hz pts acs[k]!.write ((bF (loans &&& oV pts (2 ^ (acs[k]!.var).toNat))).take (j + 1)) a = if acs[k]!.write = true ∨ pts[((bF (loans &&& oV pts (2 ^ (acs[k]!.var).toNat)))[j]!).toNat]!.op = 5 then b ||| 2 ^ ((bF (loans &&& oV pts (2 ^ (acs[k]!.var).toNat)))[j]!).toNat else b := by
    rw [hb]; unfold Hz;rw [dP _ _ _ _ hjn]
   have hb2 : b ||| 2 ^ ((bF (loans &&& oV pts (2 ^ (acs[k]!.var).toNat)))[j]!).toNat < 2 ^ pts.length := Nat.or_lt_two_pow hbb (Nat.pow_lt_pow_right (by decide) (by omega))
   repeat' (first|(apply aH;(apply iN;rfl;rfl;infer_instance;omega;rfl;(case' kk => intro hsm)))|refine aB ?_|(refine aV ?_ ?_ <;> intro hc hq <;> try (exfalso;omega))|(refine dB ?_ ?_ <;> intro hg hq <;> try (exfalso;omega))|fail)
   all_goals first
    | ((refine bT (j + 1, b ||| 2 ^ ((bF (loans &&& oV pts (2 ^ (acs[k]!.var).toNat)))[j]!).toNat) (Le.renA [(0, 0)]) ?_ ?_)
       ·dsimp only
        refine ⟨by omega,?_,hb2⟩
        rw [hstep,if_pos (by first|exact .inl (by assumption)|exact .inr (by assumption))]
       ·dsimp only;omega)
    | ((refine bT (j + 1, b) (Le.renA [(0, 0)]) ?_ ?_)
       ·dsimp only
        refine ⟨by omega,?_,hbb⟩
        rw [hstep,if_neg (fun h => h.elim (fun h1 => Bool.noConfusion (h1.symm.trans (by assumption : acs[k]!.write = false))) (fun h2 => absurd h2 (by assumption)))]
       ·dsimp only;omega)
  ·repeat' (first | refine aB ?_ | (refine aV ?_ ?_ <;> intro hc hq <;> try (exfalso; omega))|fail)
   (refine bT (k + 1,b) (Le.renA []) ?_ ?_)
   ·dsimp only
    refine ⟨by omega,?_,hbb⟩
    rw [hb,List.take_of_length_le (by omega),ha]; unfold F7;rw [htk]
   ·dsimp only;omega
 ·repeat' (first | refine aB ?_ | (refine aV ?_ ?_ <;> intro hc hq <;> try (exfalso; omega))|fail)
  refine aP rfl ⟨?_,rfl⟩
  simp only [aR]
  rw [ha,List.take_of_length_le (by omega)]
end Go.Proofs.YtgkalkgplcdnkaaGreat
