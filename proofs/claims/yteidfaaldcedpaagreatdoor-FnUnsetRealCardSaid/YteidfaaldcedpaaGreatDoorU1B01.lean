/-
 A part of the proofs over this program: rules and contracts of its functions (the contracts).
-/
import Derived.Test.YteidfaaldcedpaaGreatDoorU1A08
import Derived.Test.YteidfaaldcedpaaGreatDoorRows
set_option linter.unusedVariables false
set_option linter.unusedSimpArgs false
set_option maxHeartbeats 8000000
set_option maxRecDepth 4000
attribute [local irreducible] Go.AL.RW Go.AL.AW Go.AL.Stop
namespace Go.Proofs.YteidfaaldcedpaaGreatDoor
open Go.AL
theorem cY (a b c:Int):PC Tryz.prog 47 [iv a,iv b,iv c] (fun r => r = bv (decide (b ≤ a) && decide (a ≤ c))):=by
 refine aB Tryz.func47 Tryz.ntmps47 ?_
 repeat' (first|refine aE ?_|(refine bK ?_ ?_ <;> intro hg hq <;> try (exfalso;omega))|refine cV ?_|fail)
 all_goals (refine ⟨?_,rfl⟩; simp only [aM,AV.v.injEq,Value.bool.injEq,Value.int.injEq,true_and])
 all_goals grind
theorem CL (t:Int):PC Tryz.prog 140 [iv t] (fun r => r = bv (kQ t)):=by
 refine aB Tryz.func140 Tryz.ntmps140 ?_
 repeat' (first|refine aE ?_|(refine bK ?_ ?_ <;> intro hg hq <;> try (exfalso;omega))|refine cV ?_|fail)
 all_goals (refine ⟨?_,rfl⟩; simp only [aM,AV.v.injEq,Value.bool.injEq,Value.int.injEq,true_and])
 all_goals grind [kQ]
theorem Lb (t:Int):PC Tryz.prog 158 [iv t] (fun r => r = bv (kQ t)):=by
 refine aB Tryz.func158 Tryz.ntmps158 ?_
 repeat' (first|refine aE ?_|(refine bK ?_ ?_ <;> intro hg hq <;> try (exfalso;omega))|refine cV ?_|fail)
 all_goals (refine ⟨?_,rfl⟩; simp only [aM,AV.v.injEq,Value.bool.injEq,Value.int.injEq,true_and])
 all_goals grind [kQ]
theorem Dq (t:Int):PC Tryz.prog 188 [iv t] (fun r => r = bv (decide (t = 2) || kQ t)):=by
 refine aB Tryz.func188 Tryz.ntmps188 ?_
 repeat' (first|(apply aF;(apply aA (k := 140);rfl;(apply CL);(rfl);rfl))|refine aE ?_|(refine bK ?_ ?_ <;> intro hg hq <;> try (exfalso;omega))|refine cV ?_|fail)
 all_goals (refine ⟨?_,rfl⟩; simp only [aM,AV.v.injEq,Value.bool.injEq,Value.int.injEq,true_and])
 all_goals grind
theorem Db (t:Int):PC Tryz.prog 167 [iv t] (fun r => r = bv (decide (t = 9) || decide (t = 10))):=by
 refine aB Tryz.func167 Tryz.ntmps167 ?_
 repeat' (first|refine aE ?_|(refine bK ?_ ?_ <;> intro hg hq <;> try (exfalso;omega))|refine cV ?_|fail)
 all_goals (refine ⟨?_,rfl⟩; simp only [aM,AV.v.injEq,Value.bool.injEq,Value.int.injEq,true_and])
 all_goals grind
theorem Ju (ts:List Int) (v:Int):PC Tryz.prog 196 [sl cI ts,iv v] (fun r => r = iv (fG ts v)):=by
 refine aB Tryz.func196 Tryz.ntmps196 ?_
 repeat' (first|refine aE ?_|(refine aK ?_ ?_ <;> intro hc hq <;> try (exfalso;omega))|(refine bK ?_ ?_ <;> intro hg hq <;> try (exfalso;omega))|refine cV ?_|fail)
 all_goals (refine ⟨?_,rfl⟩; simp only [aM,AV.v.injEq,Value.bool.injEq,Value.int.injEq,true_and])
 all_goals grind [fG]
theorem HW (ts:List Int) (v:Int) (hl:ts.length ≤ 1048576):PC Tryz.prog 187 [sl cI ts,iv v] (fun r => r = iv (fG ts v)):=by
 refine aB Tryz.func187 Tryz.ntmps187 ?_
 repeat' (first|(apply aF;(apply aA (k := 47);rfl;(apply cY);(rfl);rfl))|refine aE ?_|(refine aK ?_ ?_ <;> intro hc hq <;> try (exfalso;omega))|refine cV ?_|fail)
 all_goals (refine ⟨?_,rfl⟩; simp only [aM,AV.v.injEq,Value.bool.injEq,Value.int.injEq,true_and])
 all_goals grind [fG]
theorem Dv (ts:List Int) (s:AL.Stmt) (hl:bW ts = true):PC Tryz.prog 168 [sl cI ts,eQ s] (fun r => r = bv (s.th.isEmpty && s.el.isEmpty && c6 ts s)):=by
 have hl2 := iQ hl
 have hx := jQ hl s.x
 have hy := jQ hl s.y
 refine aB Tryz.func168 Tryz.ntmps168 ?_
 repeat' (first|(apply aF;(first|(apply aA (k := 47);rfl;(apply cY);(rfl);rfl)|(apply aA (k := 187);rfl;(apply HW <;> (omega));exact Pur.pf;rfl)|(apply aA (k := 188);rfl;(apply Dq);(rfl);rfl)))|refine aE ?_|(refine aK ?_ ?_ <;> intro hc hq <;> try (exfalso;omega))|(refine bK ?_ ?_ <;> intro hg hq <;> try (exfalso;omega))|refine bH ?_|refine cV ?_|fail)
 all_goals (refine ⟨?_,rfl⟩; simp only [aM,AV.v.injEq,Value.bool.injEq,Value.int.injEq,true_and])
 all_goals (cases hth : s.th <;> cases hel : s.el <;> simp only [hth,hel,List.length_nil,List.length_cons,List.isEmpty_nil,List.isEmpty_cons,Bool.true_and,Bool.false_and] at *)
 all_goals (try unfold c6)
 all_goals (try simp only [kQ,Bool.or_eq_true,Bool.or_eq_false_iff,decide_eq_true_eq,decide_eq_false_iff_not] at *)
 all_goals grind
theorem DJ (ts:List Int) (s:AL.Stmt) (hl:bW ts = true):PC Tryz.prog 177 [sl cI ts,eQ s] (fun r => r = bv (c6 ts s)):=by
 have hl2 := iQ hl
 have hx := jQ hl s.x
 have hy := jQ hl s.y
 refine aB Tryz.func177 Tryz.ntmps177 ?_
 repeat' (first|(apply aF;(apply aA (k := 196);rfl;(apply Ju);exact Pur.pf;rfl))|refine aE ?_|(refine aK ?_ ?_ <;> intro hc hq <;> try (exfalso;omega))|(refine bK ?_ ?_ <;> intro hg hq <;> try (exfalso;omega))|refine cV ?_|fail)
 all_goals (refine ⟨?_,rfl⟩; simp only [aM,AV.v.injEq,Value.bool.injEq,Value.int.injEq,true_and])
 all_goals (try unfold c6)
 all_goals grind
theorem Gh (ts:List Int) (hl:bW ts = true) (m:Nat) (ih:∀ l (d:Int),aR l < m → 0 ≤ d → d ≤ 1000 → PC Tryz.prog 104 [sl cI ts,sl aN l,iv d] (fun r => r = bv (okL ts d.toNat l))) (s:AL.Stmt) (d:Int) (hs:cH s ≤ m) (hd0:0 ≤ d) (hd:d ≤ 1000) :
  PC Tryz.prog 147 [sl cI ts,eQ s,iv d] (fun r => r = bv (sV ts d.toNat s)) := by
 rw [M3 ts d hd0]
 refine aB Tryz.func147 Tryz.ntmps147 ?_
 repeat' (first|(apply aF;(first|(apply aA (k := 104);rfl;(apply ih <;> (first|omega|(have := l9 s;omega)));exact Pur.pf;rfl)|(apply aA (k := 177);rfl;(apply DJ <;> (assumption));exact Pur.pf;rfl)))|refine aE ?_|(refine aK ?_ ?_ <;> intro hc hq <;> try (exfalso;omega))|(refine bK ?_ ?_ <;> intro hg hq <;> try (exfalso;omega))|refine cV ?_|fail)
 all_goals (refine ⟨?_,rfl⟩; simp only [aM,AV.v.injEq,Value.bool.injEq,Value.int.injEq,true_and])
 all_goals (cases hth : s.th <;> cases hel : s.el <;> simp only [hth,hel,List.length_nil,List.length_cons,List.isEmpty_nil,List.isEmpty_cons,Bool.true_and,Bool.false_and] at *)
 all_goals grind
theorem Ge (ts:List Int) (hl:bW ts = true) (m:Nat) (ih:∀ s (d:Int),cH s ≤ m → 0 ≤ d → d ≤ 1000 → PC Tryz.prog 147 [sl cI ts,eQ s,iv d] (fun r => r = bv (sV ts d.toNat s))) (l:List AL.Stmt) (d:Int) (hs:aR l ≤ m) (hm:m ≤ 100000000) (hd0:0 ≤ d) (hd:d ≤ 1000) :
  PC Tryz.prog 104 [sl cI ts,sl aN l,iv d] (fun r => r = bv (okL ts d.toNat l)) := by
 have hlen := dX l
 refine aB Tryz.func104 Tryz.ntmps104 ?_
 repeat' (first|refine aE ?_|fail)
 refine aH (σ := Nat) [0,1,2] [] (fun k => [(7,iv (k : Int))]) (fun k => []) (fun k => k ≤ l.length ∧ ∀ i,i < k → sV ts d.toNat l[i]! = true) (fun k => l.length - k) (0) ⟨by omega,by omega⟩ ?_
 intro k ⟨hk,hall⟩
 have hck := gP l k
 repeat' (first|(apply aF;(apply aA (k := 147);rfl;(apply ih _ d (Nat.le_trans (hck (by omega)) hs) hd0 hd);exact Pur.pf;rfl))|refine aE ?_|(refine aK ?_ ?_ <;> intro hc hq <;> try (exfalso;omega))|refine cV ?_|fail)
 ·(refine ⟨?_, rfl⟩; simp only [aM, AV.v.injEq, Value.bool.injEq, Value.int.injEq, true_and])
  rw [Kr (k := k) (by omega) hq]
 ·(refine bB (k + 1) (Le.renA []) ?_ ?_)
  ·grind
  ·omega
 ·(refine ⟨?_, rfl⟩; simp only [aM, AV.v.injEq, Value.bool.injEq, Value.int.injEq, true_and])
  rw [NK (fun i hi => hall i (by omega))]
theorem ME (ts:List Int) (hl:bW ts = true):∀ (m:Nat),m ≤ 100000000 → (∀ s (d:Int),cH s ≤ m → 0 ≤ d → d ≤ 1000 → PC Tryz.prog 147 [sl cI ts,eQ s,iv d] (fun r => r = bv (sV ts d.toNat s))) ∧
  (∀ l (d : Int),aR l ≤ m → 0 ≤ d → d ≤ 1000 → PC Tryz.prog 104 [sl cI ts,sl aN l,iv d] (fun r => r = bv (okL ts d.toNat l))) := by
 intro m
 induction m using Nat.strongRecOn with
 | ind m ih =>
  intro hm
  have h1 : ∀ s (d : Int), cH s ≤ m → 0 ≤ d → d ≤ 1000 → PC Tryz.prog 147 [sl cI ts, eQ s, iv d] (fun r => r = bv (sV ts d.toNat s)) :=
   fun s d h1 h2 h3 => Gh ts hl m (fun l d' g1 g2 g3 => (ih (aR l) g1 (by omega)).2 l d' (Nat.le_refl _) g2 g3) s d h1 h2 h3
  exact ⟨h1,fun l d g1 g2 g3 => Ge ts hl m h1 l d g1 hm g2 g3⟩
theorem De (m0:Nat) (ih:∀ l (most:Int),aR l < m0 → -1 ≤ most → most ≤ 1000 → PC Tryz.prog 105 [sl aN l,iv most] (fun r => r = iv (oG most 0 l))) (l:List AL.Stmt) (most:Int) (hs:aR l ≤ m0) (hm:m0 ≤ 100000000) (hd0:-1 ≤ most) (hd:most ≤ 1000) :
  PC Tryz.prog 105 [sl aN l,iv most] (fun r => r = iv (oG most 0 l)) := by
 have hlen := dX l
 have hall := mT l most 0
 refine aB Tryz.func105 Tryz.ntmps105 ?_
 repeat' (first|refine aE ?_|fail)
 refine aH (σ := Nat × Int) [0,1] [] (fun k => [(6,iv (k.1 : Int)),(5,iv k.2)]) (fun k => []) (fun k => k.1 ≤ l.length ∧ oG most k.2 (l.drop k.1) = oG most 0 l ∧ 0 ≤ k.2 ∧ k.2 ≤ aR l) (fun k => l.length - k.1) (0,0) ⟨by omega,rfl,by omega,by omega⟩ ?_
 rintro ⟨k,n⟩ ⟨hk,hn,hn0,hn1⟩
 dsimp only at hk hn hn0 hn1 ⊢
 have hck := gP l k
 have hct := l9 l[k]!
 have b1 := mT l[k]!.th (most - n) 0
 have b2 := fun z => mT l[k]!.el z 0
 have b3 := JI l[k]! most n
 have b4 := mT (l.drop (k + 1)) most (JB most n l[k]!)
 have b5 := JO most n l k
 rw [NW] at b3 b4 b5
 repeat' (first|(apply aF;(apply aA (k := 105);rfl;(apply ih <;> omega);exact Pur.pf;rfl))|refine aE ?_|(refine aK ?_ ?_ <;> intro hc hq <;> try (exfalso;omega))|(refine bK ?_ ?_ <;> intro hg hq <;> try (exfalso;omega))|refine cV ?_|fail)
 ·(refine bB (k + 1, n + 1 + oG (most - n) 0 l[k]!.th + oG (most - (n + 1 + oG (most - n) 0 l[k]!.th)) 0 l[k]!.el) (Le.renA []) ?_ ?_)
  ·dsimp only;grind
  ·dsimp only;omega
 ·(refine bB (k + 1, n + 1 + oG (most - n) 0 l[k]!.th) (Le.renA []) ?_ ?_)
  ·dsimp only;grind
  ·dsimp only;omega
 ·(refine ⟨?_, rfl⟩; simp only [aM, AV.v.injEq, Value.bool.injEq, Value.int.injEq, true_and])
  rw [← hn,IC _ _ _ (by omega)]
 ·(refine ⟨?_, rfl⟩; simp only [aM, AV.v.injEq, Value.bool.injEq, Value.int.injEq, true_and])
  rw [← hn,L1 _ _ _ _ (by omega)]
theorem HH (l:List AL.Stmt) (most:Int) (hs:aR l ≤ 100000000) (hd0:-1 ≤ most) (hd:most ≤ 1000) :
  PC Tryz.prog 105 [sl aN l,iv most] (fun r => r = iv (oG most 0 l)) := by
 have h : ∀ (m : Nat), m ≤ 100000000 → ∀ l (most : Int), aR l ≤ m → -1 ≤ most → most ≤ 1000 → PC Tryz.prog 105 [sl aN l, iv most] (fun r => r = iv (oG most 0 l)) := by
  intro m
  induction m using Nat.strongRecOn with
  | ind m ih =>
   intro hm l most h1 h2 h3
   exact De m (fun l' most' g1 g2 g3 => ih _ g1 (by omega) l' most' (Nat.le_refl _) g2 g3) l most h1 hm h2 h3
 exact h _ hs l most (Nat.le_refl _) hd0 hd
theorem JJ (ts:List Int) (l:List AL.Stmt) (d:Int) (hl:bW ts = true) (hs:aR l ≤ 100000000) (hd0:0 ≤ d) (hd:d ≤ 1000):PC Tryz.prog 104 [sl cI ts,sl aN l,iv d] (fun r => r = bv (okL ts d.toNat l)) :=
 (ME ts hl _ hs).2 l d (Nat.le_refl _) hd0 hd
theorem yU (ts:List Int) (hl:ts.length ≤ 1048576):PC Tryz.prog 103 [sl cI ts] (fun r => r = bv (bW ts)):=by
 refine aB Tryz.func103 Tryz.ntmps103 ?_
 repeat' (first|refine aE ?_|fail)
 refine aH (σ := Nat) [0] [] (fun k => [(3,iv (k : Int))]) (fun k => []) (fun k => k ≤ ts.length ∧ ∀ i,i < k → 1 ≤ ts[i]! ∧ ts[i]! ≤ 4) (fun k => ts.length - k) (0) ⟨by omega,by omega⟩ ?_
 intro k ⟨hk,hall⟩
 repeat' (first|refine aE ?_|(refine aK ?_ ?_ <;> intro hc hq <;> try (exfalso;omega))|(refine bK ?_ ?_ <;> intro hg hq <;> try (exfalso;omega))|refine cV ?_|fail)
 ·(refine ⟨?_, rfl⟩; simp only [aM, AV.v.injEq, Value.bool.injEq, Value.int.injEq, true_and])
  unfold bW;grind [n7,kG]
 ·(refine bB (k + 1) (Le.renA []) ?_ ?_)
  ·grind
  ·omega
 ·(refine ⟨?_, rfl⟩; simp only [aM, AV.v.injEq, Value.bool.injEq, Value.int.injEq, true_and])
  unfold bW;grind [n7,kG]
 ·(refine ⟨?_, rfl⟩; simp only [aM, AV.v.injEq, Value.bool.injEq, Value.int.injEq, true_and])
  unfold bW;grind [n7,kG]
theorem jU (p:Prg) (hl:p.types.length ≤ 1048576) (hs:aR p.body ≤ 100000000):PC Tryz.prog 63 [bI p] (fun r => r = bv (bE p)):=by
 unfold bE
 cases ht : bW p.types
 ·refine aB Tryz.func63 Tryz.ntmps63 ?_
  repeat' (first|(apply aF;(apply aA (k := 103);rfl;(apply yU <;> (assumption));exact Pur.pf;rfl))|refine aE ?_|refine cV ?_|fail)
  (refine ⟨?_,rfl⟩; simp only [aM,AV.v.injEq,Value.bool.injEq,Value.int.injEq,true_and])
  rfl
 ·refine aB Tryz.func63 Tryz.ntmps63 ?_
  repeat' (first|(apply aF;(first|(apply aA (k := 103);rfl;(apply yU <;> (assumption));exact Pur.pf;rfl)|(apply aA (k := 104);rfl;(apply JJ <;> (first|assumption|omega));exact Pur.pf;rfl)|(apply aA (k := 105);rfl;(apply HH <;> (first|assumption|omega));exact Pur.pf;rfl)))|refine aE ?_|(refine bK ?_ ?_ <;> intro hg hq <;> try (exfalso;omega))|refine cV ?_|fail)
  ·(refine ⟨?_, rfl⟩; simp only [aM, AV.v.injEq, Value.bool.injEq, Value.int.injEq, true_and])
   rw [show okL p.types 4 p.body = true from hq]; simp only [Bool.true_and,PT,decide_eq_decide]; omega
  ·(refine ⟨?_, rfl⟩; simp only [aM, AV.v.injEq, Value.bool.injEq, Value.int.injEq, true_and])
   rw [show okL p.types 4 p.body = false from hq]; rfl
end Go.Proofs.YteidfaaldcedpaaGreatDoor
namespace Go.Proofs.YteidfaaldcedpaaGreatDoor
open Go.AL Go.RowKit
variable {N : Nat} {Q : Exit → AS → Prop} {all : Array Oper} {rest : List Oper} {tsl : List (Nat × AV)} {hsl : List (Nat × Option (List AV))} {nidl : Nat} {z0 : Lo} {md : Md} {d : Nat} {ty : TypeId} {pos : String} {af : Array Edge} {tys : Array TypeId}
theorem NF {ts:List Int}{s:AL.Stmt}{nest c:Int}{x0 x1 x2 x3:Operand}{i0:Nat}(ha0:ev (lk tsl) x0 = some (sl cI ts)) (ha1:ev (lk tsl) x1 = some (eQ s)) (ha2:ev (lk tsl) x2 = some (iv nest)) (ha3:ev (lk tsl) x3 = some (.optr i0 0)) (hH0:aT hsl i0 = some ([iv c])) (hmc:MC Tryz.prog 137 [sl cI ts,eQ s,iv nest,.optr 0 0] [(0,some ([iv c]))] 1 (fun _:Unit => True) (fun _ => bv (nM ts nest c s).1) (fun _ => [(0,some ([iv (nM ts nest c s).2]))])) (hM:Nat.ble (nidl + 0) a6 = true) (hN:Nat.blt d N = true){md':Md}[hmd:MdA md (fF [x0,x1,x2,x3] ++ [.inr i0]) (List.map Sum.inr (List.map Prod.fst ([(i0,some ([iv (nM ts nest c s).2]))]:List (Nat × Option (List AV)))) ++ [.inl d]) md'] (kk:RW Tryz.prog N all Q md' rest ⟨(d,bv (nM ts nest c s).1) :: tsl,gD hsl [(i0,some ([iv (nM ts nest c s).2]))],nidl + 0,z0⟩):RW Tryz.prog N all Q md (⟨some d,.call ⟨.value (.func 137),#[x0,x1,x2,x3],tys⟩,ty,pos,af,none⟩ :: rest) ⟨tsl,hsl,nidl,z0⟩:=by
 exact aX (l := [x0,x1,x2,x3]) [i0] 1 [(i0,some ([iv (nM ts nest c s).2]))] hmc (avs := [sl cI ts,eQ s,iv nest,.optr i0 0]) (by simp only [evL,ha0,ha1,ha2,ha3]) rfl hM hN (md' := md') (hmd := hmd) kk
theorem vB {ts:List Int}{l:List AL.Stmt}{nest c:Int}{x0 x1 x2 x3:Operand}{i0:Nat}(ha0:ev (lk tsl) x0 = some (sl cI ts)) (ha1:ev (lk tsl) x1 = some (sl aN l)) (ha2:ev (lk tsl) x2 = some (iv nest)) (ha3:ev (lk tsl) x3 = some (.optr i0 0)) (hH0:aT hsl i0 = some ([iv c])) (hmc:MC Tryz.prog 84 [sl cI ts,sl aN l,iv nest,.optr 0 0] [(0,some ([iv c]))] 1 (fun _:Unit => True) (fun _ => bv (kX ts nest c l).1) (fun _ => [(0,some ([iv (kX ts nest c l).2]))])) (hM:Nat.ble (nidl + 0) a6 = true) (hN:Nat.blt d N = true){md':Md}[hmd:MdA md (fF [x0,x1,x2,x3] ++ [.inr i0]) (List.map Sum.inr (List.map Prod.fst ([(i0,some ([iv (kX ts nest c l).2]))]:List (Nat × Option (List AV)))) ++ [.inl d]) md'] (kk:RW Tryz.prog N all Q md' rest ⟨(d,bv (kX ts nest c l).1) :: tsl,gD hsl [(i0,some ([iv (kX ts nest c l).2]))],nidl + 0,z0⟩):RW Tryz.prog N all Q md (⟨some d,.call ⟨.value (.func 84),#[x0,x1,x2,x3],tys⟩,ty,pos,af,none⟩ :: rest) ⟨tsl,hsl,nidl,z0⟩:=by
 exact aX (l := [x0,x1,x2,x3]) [i0] 1 [(i0,some ([iv (kX ts nest c l).2]))] hmc (avs := [sl cI ts,sl aN l,iv nest,.optr i0 0]) (by simp only [evL,ha0,ha1,ha2,ha3]) rfl hM hN (md' := md') (hmd := hmd) kk
theorem M7 (ts:List Int) (htO:bW ts = true) (m:Nat) (scanAll_ih:∀ l nest c,aR l < m → 0 ≤ nest → nest ≤ 4 → 0 ≤ c → c ≤ 30 → MC Tryz.prog 84 [sl cI ts,sl aN l,iv nest,.optr 0 0] [(0,some ([iv c]))] 1 (fun _:Unit => True) (fun _ => bv (kX ts nest c l).1) (fun _ => [(0,some ([iv (kX ts nest c l).2]))])) (s:AL.Stmt) (nest c:Int) (hs:cH s ≤ m) (hn0:0 ≤ nest) (hn:nest ≤ 4) (hc0:0 ≤ c) (hc:c ≤ 30):MC Tryz.prog 137 [sl cI ts,eQ s,iv nest,.optr 0 0] [(0,some ([iv c]))] 1 (fun _:Unit => True) (fun _ => bv (nM ts nest c s).1) (fun _ => [(0,some ([iv (nM ts nest c s).2]))]):=by
 have ct := l9 s
 have hb1 := OK ts s.th (nest + 1) (c + 1)
 refine aU Tryz.func137 Tryz.ntmps137 ?_
 repeat' (first|(apply aF;(first|(apply vB;rfl;rfl;rfl;rfl;(rfl);(apply scanAll_ih <;> (first|assumption|omega|grind));rfl;rfl)|(apply aA (k := 167);rfl;(apply Db);(rfl);rfl)|(apply aA (k := 168);rfl;(apply Dv <;> (assumption));exact Pur.pf;rfl)))|refine aE ?_|(refine aK ?_ ?_ <;> intro hc hq <;> try (exfalso;omega))|(refine bK ?_ ?_ <;> intro hg hq <;> try (exfalso;omega))|fail)
 all_goals (refine aC rfl ?_; refine aP () trivial ?_ ⟨sE ?_,trivial⟩)
 all_goals (try simp only [aM,AV.v.injEq,Value.bool.injEq,Value.int.injEq,true_and,gW,List.take,List.drop,List.length,List.append,List.nil_append,List.append_nil,Option.some.injEq,List.cons.injEq,and_true])
 all_goals rw [NO]
 all_goals clear scanAll_ih
 all_goals (cases hel : s.el <;> simp only [hel,List.length_nil,List.length_cons] at * <;> grind)
theorem Dz (ts:List Int) (m:Nat) (hm:m ≤ 100000000) (scan_ih:∀ s nest c,cH s ≤ m → 0 ≤ nest → nest ≤ 4 → 0 ≤ c → c ≤ 30 → MC Tryz.prog 137 [sl cI ts,eQ s,iv nest,.optr 0 0] [(0,some ([iv c]))] 1 (fun _:Unit => True) (fun _ => bv (nM ts nest c s).1) (fun _ => [(0,some ([iv (nM ts nest c s).2]))])) (l:List AL.Stmt) (nest c:Int) (hs:aR l ≤ m) (hn0:0 ≤ nest) (hn:nest ≤ 4) (hc0:0 ≤ c) (hc:c ≤ 30):MC Tryz.prog 84 [sl cI ts,sl aN l,iv nest,.optr 0 0] [(0,some ([iv c]))] 1 (fun _:Unit => True) (fun _ => bv (kX ts nest c l).1) (fun _ => [(0,some ([iv (kX ts nest c l).2]))]):=by
 have hlen := dX l
 refine aU Tryz.func84 Tryz.ntmps84 ?_
 repeat' (first|refine aE ?_|fail)
 refine aH (σ := Nat × Int) [0,2,3,11,12] [] (fun k => [(13,iv (k.1 : Int))]) (fun k => [(0,some [iv k.2])]) (fun k => k.1 ≤ l.length ∧ kX ts nest k.2 (l.drop k.1) = kX ts nest c l ∧ 0 ≤ k.2 ∧ k.2 ≤ 30) (fun k => l.length - k.1) (0,c) ⟨by omega,rfl,by omega,by omega⟩ ?_
 rintro ⟨k,c'⟩ ⟨hk,hn,hn0,hn1⟩
 dsimp only at hk hn hn0 hn1 ⊢
 have hck := gP l k
 have hb1 := OQ ts l[k]! nest c'
 have hst := @scL_stop ts nest c' l k
 repeat' (first|(apply aF;(apply NF;rfl;rfl;rfl;rfl;(rfl);(apply scan_ih <;> (first|assumption|omega));rfl;rfl))|refine aE ?_|(refine aK ?_ ?_ <;> intro hc hq <;> try (exfalso;omega))|fail)
 ·(refine aC rfl ?_; refine aP () trivial ?_ ⟨sE ?_, trivial⟩)
  all_goals (try simp only [aM,AV.v.injEq,Value.bool.injEq,Value.int.injEq,true_and,gW,List.take,List.drop,List.length,List.append,List.nil_append,List.append_nil,Option.some.injEq,List.cons.injEq,and_true])
  all_goals (rw [← hn,hst (by omega)]; grind)
 ·(refine bB (k + 1, (nM ts nest c' l[k]!).2) (Le.renA []) ?_ ?_)
  ·dsimp only;grind
  ·dsimp only;omega
 ·(refine aC rfl ?_; refine aP () trivial ?_ ⟨sE ?_, trivial⟩)
  all_goals (try simp only [aM,AV.v.injEq,Value.bool.injEq,Value.int.injEq,true_and,gW,List.take,List.drop,List.length,List.append,List.nil_append,List.append_nil,Option.some.injEq,List.cons.injEq,and_true])
  all_goals (rw [← hn,List.drop_of_length_le (by omega),kX])
theorem F5 (ts:List Int) (hl:bW ts = true):∀ (m:Nat),m ≤ 100000000 → (∀ s (nest c:Int),cH s ≤ m → 0 ≤ nest → nest ≤ 4 → 0 ≤ c → c ≤ 30 → MC Tryz.prog 137 [sl cI ts,eQ s,iv nest,.optr 0 0] [(0,some ([iv c]))] 1 (fun _:Unit => True) (fun _ => bv (nM ts nest c s).1) (fun _ => [(0,some ([iv (nM ts nest c s).2]))])) ∧
  (∀ l (nest c : Int),aR l ≤ m → 0 ≤ nest → nest ≤ 4 → 0 ≤ c → c ≤ 30 → MC Tryz.prog 84 [sl cI ts,sl aN l,iv nest,.optr 0 0] [(0,some ([iv c]))] 1 (fun _ : Unit => True) (fun _ => bv (kX ts nest c l).1) (fun _ => [(0,some ([iv (kX ts nest c l).2]))])) := by
 intro m
 induction m using Nat.strongRecOn with
 | ind m ih =>
  intro hm
  have h1 : ∀ s (nest c : Int), cH s ≤ m → 0 ≤ nest → nest ≤ 4 → 0 ≤ c → c ≤ 30 → MC Tryz.prog 137 [sl cI ts, eQ s, iv nest, .optr 0 0] [(0, some ([iv c]))] 1 (fun _ : Unit => True) (fun _ => bv (nM ts nest c s).1) (fun _ => [(0, some ([iv (nM ts nest c s).2]))]) :=
   fun s nest c h1 h2 h3 h4 h5 => M7 ts hl m (fun l nest c g1 g2 g3 g4 g5 => (ih (aR l) g1 (by omega)).2 l nest c (Nat.le_refl _) g2 g3 g4 g5) s nest c h1 h2 h3 h4 h5
  exact ⟨h1,fun l nest c g1 g2 g3 g4 g5 => Dz ts m hm h1 l nest c g1 g2 g3 g4 g5⟩
theorem Hn (ts:List Int) (l:List AL.Stmt) (nest c:Int) (hl:bW ts = true) (hs:aR l ≤ 100000000) (hn0:0 ≤ nest) (hn:nest ≤ 4) (hc0:0 ≤ c) (hc:c ≤ 30):MC Tryz.prog 84 [sl cI ts,sl aN l,iv nest,.optr 0 0] [(0,some ([iv c]))] 1 (fun _:Unit => True) (fun _ => bv (kX ts nest c l).1) (fun _ => [(0,some ([iv (kX ts nest c l).2]))]) :=
 (F5 ts hl _ hs).2 l nest c (Nat.le_refl _) hn0 hn hc0 hc
theorem Er (t:Int):PC Tryz.prog 136 [iv t] (fun r => r = bv (!(decide (1 ≤ t) && decide (t ≤ 4)))):=by
 refine aB Tryz.func136 Tryz.ntmps136 ?_
 repeat' (first|(apply aF;(apply aA (k := 47);rfl;(apply cY);(rfl);rfl))|refine aE ?_|refine cV ?_|fail)
 all_goals (refine ⟨?_,rfl⟩; simp only [aM,AV.v.injEq,Value.bool.injEq,Value.int.injEq,true_and])
def uG (ts : List Int) : Int := match ts.findIdx? (fun t => !(decide (1 ≤ t) && decide (t ≤ 4))) with | some i => i | none => -1
theorem JR (ts:List Int) (hl:ts.length ≤ 1048576):PC Tryz.prog 112 [sl cI ts,.v (.func (.func 136) #[] #[])] (fun r => r = iv (uG ts)):=by
 refine aB Tryz.func112 Tryz.ntmps112 ?_
 repeat' (first|refine aE ?_|fail)
 refine aH (σ := Nat) [0,1,7] [] (fun k => [(8,iv (k : Int))]) (fun k => []) (fun k => k ≤ ts.length ∧ ∀ i,i < k → 1 ≤ ts[i]! ∧ ts[i]! ≤ 4) (fun k => ts.length - k) (0) ⟨by omega,by omega⟩ ?_
 intro k ⟨hk,hall⟩
 repeat' (first|(apply aF;(apply gQ;rfl;rfl;infer_instance;rfl;(apply Er);(rfl);rfl))|refine aE ?_|(refine aK ?_ ?_ <;> intro hc hq <;> try (exfalso;omega))|refine cV ?_|fail)
 ·(refine ⟨?_, rfl⟩; simp only [aM, AV.v.injEq, Value.bool.injEq, Value.int.injEq, true_and])
  have hlt : k < ts.length := by omega
  have : ts.findIdx? (fun t => !(decide (1 ≤ t) && decide (t ≤ 4))) = some k := by
   rw [List.findIdx?_eq_some_iff_getElem]
   refine ⟨hlt,?_,fun j hj => ?_⟩
   ·rw [← aY ts k hlt]; grind
   ·have := hall j hj;rw [aY ts j (by omega)] at this;simp;omega
  simp only [uG,this]
 ·(refine bB (k + 1) (Le.renA []) ?_ ?_)
  ·grind
  ·omega
 ·(refine ⟨?_, rfl⟩; simp only [aM, AV.v.injEq, Value.bool.injEq, Value.int.injEq, true_and])
  have : ts.findIdx? (fun t => !(decide (1 ≤ t) && decide (t ≤ 4))) = none := by
   rw [List.findIdx?_eq_none_iff]
   intro x hx
   obtain ⟨i,hi,rfl⟩ := List.getElem_of_mem hx
   have := hall i (by omega);rw [aY ts i hi] at this;simp;omega
  simp only [uG,this]
theorem Hg (ts:List Int):decide (0 ≤ uG ts) = !(ts.all (fun t => decide (1 ≤ t) && decide (t ≤ 4))):=by
 unfold uG
 split
 ·rename_i i h
  obtain ⟨h1,h2,_⟩ := List.findIdx?_eq_some_iff_getElem.1 h
  have : ts.all (fun t => decide (1 ≤ t) && decide (t ≤ 4)) = false := by
   rw [List.all_eq_false]; exact ⟨ts[i],List.getElem_mem h1,by simp at h2 ⊢; omega⟩
  rw [this]; simp
 ·rename_i h
  rw [List.findIdx?_eq_none_iff] at h
  have : ts.all (fun t => decide (1 ≤ t) && decide (t ≤ 4)) = true := by
   rw [List.all_eq_true]; intro x hx;simpa using h x hx
  rw [this]; rfl
theorem F9 (ts:List Int) (hl:ts.length ≤ 1048576):PC Tryz.prog 66 [sl cI ts,.v (.func (.func 136) #[] #[])] (fun r => r = bv (!(ts.all (fun t => decide (1 ≤ t) && decide (t ≤ 4))))):=by
 refine aB Tryz.func66 Tryz.ntmps66 ?_
 repeat' (first|(apply aF;(apply aA (k := 112);rfl;(apply JR <;> (assumption));exact Pur.pf;rfl))|refine aE ?_|refine cV ?_|fail)
 (refine ⟨?_,rfl⟩; simp only [aM,AV.v.injEq,Value.bool.injEq,Value.int.injEq,true_and])
 exact Hg ts
theorem vF (ts:List Int) (hl:ts.length ≤ 1048576):PC Tryz.prog 83 [sl cI ts] (fun r => r = bv (bW ts)):=by
 refine aB Tryz.func83 Tryz.ntmps83 ?_
 repeat' (first|(apply aF;(apply aA (k := 66);rfl;(apply F9 <;> (assumption));exact Pur.pf;rfl))|refine aE ?_|(refine bK ?_ ?_ <;> intro hg hq <;> try (exfalso;omega))|refine cV ?_|fail)
 all_goals (refine ⟨?_,rfl⟩; simp only [aM,AV.v.injEq,Value.bool.injEq,Value.int.injEq,true_and])
 all_goals (unfold bW;grind)
theorem BP (p:Prg) (hl:p.types.length ≤ 1048576) (hs:aR p.body ≤ 100000000):PC Tryz.prog 45 [bI p] (fun r => r = bv (bE p)):=by
 rw [← Gn]
 cases ht : bW p.types
 ·refine aB Tryz.func45 Tryz.ntmps45 ?_
  repeat' (first|(apply aF;(apply aA (k := 83);rfl;(apply vF <;> (assumption));exact Pur.pf;rfl))|refine aE ?_|refine cV ?_|fail)
  all_goals (refine ⟨?_,rfl⟩; simp only [aM,AV.v.injEq,Value.bool.injEq,Value.int.injEq,true_and])
  all_goals grind
 ·refine aB Tryz.func45 Tryz.ntmps45 ?_
  repeat' (first|(apply aF;(first|(apply aA (k := 83);rfl;(apply vF <;> (assumption));exact Pur.pf;rfl)|(apply vB;rfl;rfl;rfl;rfl;(rfl);(apply Hn <;> (first|assumption|omega));rfl;rfl)))|refine aE ?_|refine cV ?_|fail)
  all_goals (refine ⟨?_,rfl⟩; simp only [aM,AV.v.injEq,Value.bool.injEq,Value.int.injEq,true_and])
  all_goals grind
theorem rZ {l:List AL.Stmt}{pts:List Pnt}{m:Nat}{x0 x1:Operand}{i0:Nat}(ha0:ev (lk tsl) x0 = some (sl aN l)) (ha1:ev (lk tsl) x1 = some (.own i0 0 m 5)) (hH0:aT hsl i0 = some (flat b8 pts)) (hmc:MC Tryz.prog 85 [sl aN l,.own 0 0 m 5] [(0,some (flat b8 pts))] 1 (fun _:Unit => True) (fun _ => .own 1 0 (m + dB l) 5) (fun _ => [(1,some (flat b8 (pts ++ fS pts.length l)))])) (hM:Nat.ble (nidl + 1) a6 = true) (hN:Nat.blt d N = true){md':Md}[hmd:MdA md (fF [x0,x1] ++ [.inr i0]) (List.map Sum.inr (List.map Prod.fst ([(nidl,some (flat b8 (pts ++ fS pts.length l))),(i0,none)]:List (Nat × Option (List AV)))) ++ [.inl d]) md'] (kk:RW Tryz.prog N all Q md' rest ⟨(d,.own nidl 0 (m + dB l) 5) :: tsl,gD hsl [(nidl,some (flat b8 (pts ++ fS pts.length l))),(i0,none)],nidl + 1,z0⟩):RW Tryz.prog N all Q md (⟨some d,.call ⟨.value (.func 85),#[x0,x1],tys⟩,ty,pos,af,none⟩ :: rest) ⟨tsl,hsl,nidl,z0⟩:=by
 exact aX (l := [x0,x1]) [i0] 2 [(nidl,some (flat b8 (pts ++ fS pts.length l))),(i0,none)] hmc (avs := [sl aN l,.own i0 0 m 5]) (by simp only [evL,ha0,ha1]) rfl hM hN (md' := md') (hmd := hmd) kk
theorem Cr (mm:Nat) (hmm:mm ≤ 1048576) (pointsOf_ih:∀ l pts m,aR l < mm → m = pts.length → m + dB l ≤ 13000000 → MC Tryz.prog 85 [sl aN l,.own 0 0 m 5] [(0,some (flat b8 pts))] 1 (fun _:Unit => True) (fun _ => .own 1 0 (m + dB l) 5) (fun _ => [(1,some (flat b8 (pts ++ fS pts.length l)))])) (l:List AL.Stmt) (pts:List Pnt) (m:Nat) (hs:aR l ≤ mm) (hm:m = pts.length) (hb:m + dB l ≤ 13000000):MC Tryz.prog 85 [sl aN l,.own 0 0 m 5] [(0,some (flat b8 pts))] 1 (fun _:Unit => True) (fun _ => .own 1 0 (m + dB l) 5) (fun _ => [(1,some (flat b8 (pts ++ fS pts.length l)))]):=by
 have hlen := dX l
 subst hm
 refine aU Tryz.func85 Tryz.ntmps85 ?_
 repeat' (first|refine aE ?_|fail)
 refine AW.le ?_ (Le.mv (d := 1) (i := 0) (cs := flat b8 pts) rfl rfl (by decide))
 refine aH (σ := Nat × List Pnt × Nat) [9,10] [] (fun k => [(11,iv (k.1 : Int)),(1,.own 1 0 k.2.2 5)]) (fun k => [(1,some (flat b8 k.2.1))]) (fun k => k.1 ≤ l.length ∧ k.2.1 = pts ++ fS pts.length (l.take k.1) ∧ k.2.2 = k.2.1.length ∧ k.2.2 = pts.length + dB (l.take k.1)) (fun k => l.length - k.1) (0,pts,pts.length) ⟨by omega,by simp [fS],rfl,by simp [dB]⟩ ?_
 rintro ⟨k,xs,m1⟩ ⟨hk,hxs,hm1,hm2⟩
 dsimp only at hk hxs hm1 hm2 ⊢
 have hck := gP l k
 have hct := l9 l[k]!
 have hnt := D4 l k
 have n9 := KF l[k]!
 have n10 := Da l[k]!
 have n1 := Ir l[k]!
 repeat' (first|(apply aF;first|(apply aJ (t := _);rfl;rfl;rfl;(first|exact (rfl:_=some [_])|exact (rfl:_=some [_,_])|exact (rfl:_=some [_,_,_,_,_]));rfl;rfl)|(apply rZ;rfl;rfl;(rfl);(apply pointsOf_ih <;> (first|omega|(simp only [gB] <;> omega)));rfl;rfl))|refine aE ?_|(refine aK ?_ ?_ <;> intro hc hq <;> try (exfalso;omega))|fail)
 ·(refine bB (k + 1, _, _) (Le.renA [(1, 8)]) ?_ ?_)
  ·dsimp only
   rw [A7 hm1,y4 hm1,AU (by rw [bV,hm1]),AZ (by rw [bV,hm1]),gL l _ k (by omega),fI l k (by omega),jH,if_pos hq,n9 hq]
   refine ⟨by omega,?_,by simp [bV]; omega,by omega⟩
   have e1 : xs.length = pts.length + dB (l.take k) := by omega
   rw [← List.append_assoc pts,← hxs,← e1]
   simp only [List.append_assoc,List.length_append,List.length_cons,List.length_nil,bV,hm1,Nat.zero_add]
   clear pointsOf_ih hxs hck hnt n9 n10 n1
   grind
  ·dsimp only;omega
 ·(refine bB (k + 1, _, _) (Le.renA [(1, 8)]) ?_ ?_)
  ·dsimp only
   rw [Du hm1,Dj hm1,gL l _ k (by omega),fI l k (by omega),jH,if_neg (by omega),if_pos hq,n10 hq]
   refine ⟨by omega,?_,by simp [bV]; omega,by omega⟩
   have e1 : xs.length = pts.length + dB (l.take k) := by omega
   rw [← List.append_assoc pts,← hxs,← e1]
   simp only [List.append_assoc,List.length_append,List.length_cons,List.length_nil,bV,hm1,Nat.zero_add]
   clear pointsOf_ih hxs hck hnt n9 n10 n1
   grind
  ·dsimp only;omega
 ·(refine bB (k + 1, _, _) (Le.renA [(1, 5)]) ?_ ?_)
  ·dsimp only
   rw [gL l _ k (by omega),fI l k (by omega),jH,if_neg ‹¬l[k]!.op = 9›,if_neg hq,n1 ‹¬l[k]!.op = 9› hq]
   refine ⟨by omega,?_,by simp [bV]; omega,by omega⟩
   have e1 : xs.length = pts.length + dB (l.take k) := by omega
   rw [← List.append_assoc pts,← hxs,← e1,hm1]
  ·dsimp only;omega
 ·refine aC rfl ?_
  have e2 : l.take k = l := List.take_of_length_le (by omega)
  rw [e2] at hxs hm2
  refine aP () trivial ?_ ⟨sE ?_,trivial⟩
  ·simp only [aM]; rw [hm2]
  ·rw [hxs]
theorem DI (l:List AL.Stmt) (pts:List Pnt) (m:Nat) (hs:aR l ≤ 1048576) (hm:m = pts.length) (hb:m + dB l ≤ 13000000):MC Tryz.prog 85 [sl aN l,.own 0 0 m 5] [(0,some (flat b8 pts))] 1 (fun _:Unit => True) (fun _ => .own 1 0 (m + dB l) 5) (fun _ => [(1,some (flat b8 (pts ++ fS pts.length l)))]):=by
 have h : ∀ (mm : Nat), mm ≤ 1048576 → ∀ l pts m, aR l ≤ mm → m = pts.length → m + dB l ≤ 13000000 → MC Tryz.prog 85 [sl aN l, .own 0 0 m 5] [(0, some (flat b8 pts))] 1 (fun _ : Unit => True) (fun _ => .own 1 0 (m + dB l) 5) (fun _ => [(1, some (flat b8 (pts ++ fS pts.length l)))]) := by
  intro mm
  induction mm using Nat.strongRecOn with
  | ind mm ih =>
   intro h0 l pts m h1 h2 h3
   exact Cr mm h0 (fun l' pts' m' g1 g2 g3 => ih _ g1 (by omega) l' pts' m' (Nat.le_refl _) g2 g3) l pts m h1 h2 h3
 exact h _ hs l pts m (Nat.le_refl _) hm hb
theorem zB {l:List AL.Stmt}{x0 x1:Operand}(ha0:ev (lk tsl) x0 = some (sl aN l)) (ha1:ev (lk tsl) x1 = some (.v (.slice none 0 0))) (hmc:MC Tryz.prog 85 [sl aN l,.v (.slice none 0 0)] [] 0 (fun _:Unit => True) (fun _ => .own 0 0 (dB l) 5) (fun _ => [(0,some (flat b8 (fS 0 l)))])) (hM:Nat.ble (nidl + 1) a6 = true) (hN:Nat.blt d N = true){md':Md}[hmd:MdA md (fF [x0,x1] ++ []) (List.map Sum.inr (List.map Prod.fst ([(nidl,some (flat b8 (fS 0 l)))]:List (Nat × Option (List AV)))) ++ [.inl d]) md'] (kk:RW Tryz.prog N all Q md' rest ⟨(d,.own nidl 0 (dB l) 5) :: tsl,gD hsl [(nidl,some (flat b8 (fS 0 l)))],nidl + 1,z0⟩):RW Tryz.prog N all Q md (⟨some d,.call ⟨.value (.func 85),#[x0,x1],tys⟩,ty,pos,af,none⟩ :: rest) ⟨tsl,hsl,nidl,z0⟩:=by
 exact aX (l := [x0,x1]) [] 1 [(nidl,some (flat b8 (fS 0 l)))] hmc (avs := [sl aN l,.v (.slice none 0 0)]) (by simp only [evL,ha0,ha1]) rfl hM hN (md' := md') (hmd := hmd) kk
theorem Cd (l:List AL.Stmt) (hs:aR l ≤ 1048576):MC Tryz.prog 85 [sl aN l,.v (.slice none 0 0)] [] 0 (fun _:Unit => True) (fun _ => .own 0 0 (dB l) 5) (fun _ => [(0,some (flat b8 (fS 0 l)))]):=by
 have hlen := dX l
 have hn2 := lP l
 refine aU Tryz.func85 Tryz.ntmps85 ?_
 repeat' (first|refine aE ?_|fail)
 refine AW.le ?_ (Le.nilOwn (d := 1) 5 rfl (by decide))
 refine aH (σ := Nat × List Pnt × Nat) [9,10] [] (fun k => [(11,iv (k.1 : Int)),(1,.own 0 0 k.2.2 5)]) (fun k => [(0,some (flat b8 k.2.1))]) (fun k => k.1 ≤ l.length ∧ k.2.1 = fS 0 (l.take k.1) ∧ k.2.2 = k.2.1.length ∧ k.2.2 = dB (l.take k.1)) (fun k => l.length - k.1) (0,[],0) ⟨by omega,by simp [fS],rfl,by simp [dB]⟩ ?_
 rintro ⟨k,xs,m1⟩ ⟨hk,hxs,hm1,hm2⟩
 dsimp only at hk hxs hm1 hm2 ⊢
 have hck := gP l k
 have hct := l9 l[k]!
 have hnt := D4 l k
 have n9 := KF l[k]!
 have n10 := Da l[k]!
 have n1 := Ir l[k]!
 repeat' (first|(apply aF;first|(apply aJ (t := _);rfl;rfl;rfl;(first|exact (rfl:_=some [_])|exact (rfl:_=some [_,_])|exact (rfl:_=some [_,_,_,_,_]));rfl;rfl)|(apply rZ;rfl;rfl;(rfl);(apply DI <;> (first|omega|(simp only [gB] <;> omega)));rfl;rfl))|refine aE ?_|(refine aK ?_ ?_ <;> intro hc hq <;> try (exfalso;omega))|fail)
 ·(refine bB (k + 1, _, _) (Le.renA [(0, 7)]) ?_ ?_)
  ·dsimp only
   rw [A7 hm1,y4 hm1,AU (by rw [bV,hm1]),AZ (by rw [bV,hm1]),gL l _ k (by omega),fI l k (by omega),jH,if_pos hq,n9 hq]
   refine ⟨by omega,?_,by simp [bV]; omega,by omega⟩
   have e1 : dB (l.take k) = xs.length := by omega
   rw [Nat.zero_add,e1]
   rw [← hxs]
   simp only [List.append_assoc,List.length_append,List.length_cons,List.length_nil,bV,hm1,Nat.zero_add]
   clear hxs hck hnt n9 n10 n1
   grind
  ·dsimp only;omega
 ·(refine bB (k + 1, _, _) (Le.renA [(0, 7)]) ?_ ?_)
  ·dsimp only
   rw [Du hm1,Dj hm1,gL l _ k (by omega),fI l k (by omega),jH,if_neg (by omega),if_pos hq,n10 hq]
   refine ⟨by omega,?_,by simp [bV]; omega,by omega⟩
   have e1 : dB (l.take k) = xs.length := by omega
   rw [Nat.zero_add,e1]
   rw [← hxs]
   simp only [List.append_assoc,List.length_append,List.length_cons,List.length_nil,bV,hm1,Nat.zero_add]
   clear hxs hck hnt n9 n10 n1
   grind
  ·dsimp only;omega
 ·(refine bB (k + 1, _, _) (Le.renA [(0, 4)]) ?_ ?_)
  ·dsimp only
   rw [gL l _ k (by omega),fI l k (by omega),jH,if_neg ‹¬l[k]!.op = 9›,if_neg hq,n1 ‹¬l[k]!.op = 9› hq]
   refine ⟨by omega,?_,by simp [bV]; omega,by omega⟩
   have e1 : dB (l.take k) = xs.length := by omega
   rw [Nat.zero_add,e1]
   rw [← hxs,hm1]
  ·dsimp only;omega
 ·refine aC rfl ?_
  have e2 : l.take k = l := List.take_of_length_le (by omega)
  rw [e2] at hxs hm2
  refine aP () trivial ?_ ⟨sE ?_,trivial⟩
  ·simp only [aM]; rw [hm2]
  ·rw [hxs]
theorem BL (p:Prg) (hs:aR p.body ≤ 1048576):PC Tryz.prog 46 [bI p] (fun r => r = sl b8 (aD p)):=by
 have hn := lP p.body
 refine aB Tryz.func46 Tryz.ntmps46 ?_
 repeat' (first|(apply aF;first|(apply aJ (t := _);rfl;rfl;rfl;(exact (rfl:_=some [_,_,_,_,_]));rfl;rfl)|(apply zB;rfl;rfl;(apply Cd <;> (assumption));rfl;rfl))|refine aE ?_|fail)
 (refine aO (Le.frzD (d := 2) (i := 3) rfl rfl) ?_; refine aC rfl ?_)
 refine ⟨?_,?_⟩
 ·simp only [aM,sl,aD,List.length_append,List.length_cons,List.length_nil,bV,Nat.zero_add]
 ·(exact bD _ _)
theorem Bn {l:List AL.Stmt}{pts:List Pnt}{m:Nat}{x0 x1:Operand}{i0:Nat}(ha0:ev (lk tsl) x0 = some (.own i0 0 m 5)) (ha1:ev (lk tsl) x1 = some (sl aN l)) (hH0:aT hsl i0 = some (flat b8 pts)) (hmc:MC Tryz.prog 74 [.own 0 0 m 5,sl aN l] [(0,some (flat b8 pts))] 1 (fun _:Unit => True) (fun _ => .own 1 0 (m + dB l) 5) (fun _ => [(1,some (flat b8 (pts ++ fS pts.length l)))])) (hM:Nat.ble (nidl + 1) a6 = true) (hN:Nat.blt d N = true){md':Md}[hmd:MdA md (fF [x0,x1] ++ [.inr i0]) (List.map Sum.inr (List.map Prod.fst ([(nidl,some (flat b8 (pts ++ fS pts.length l))),(i0,none)]:List (Nat × Option (List AV)))) ++ [.inl d]) md'] (kk:RW Tryz.prog N all Q md' rest ⟨(d,.own nidl 0 (m + dB l) 5) :: tsl,gD hsl [(nidl,some (flat b8 (pts ++ fS pts.length l))),(i0,none)],nidl + 1,z0⟩):RW Tryz.prog N all Q md (⟨some d,.call ⟨.value (.func 74),#[x0,x1],tys⟩,ty,pos,af,none⟩ :: rest) ⟨tsl,hsl,nidl,z0⟩:=by
 exact aX (l := [x0,x1]) [i0] 2 [(nidl,some (flat b8 (pts ++ fS pts.length l))),(i0,none)] hmc (avs := [.own i0 0 m 5,sl aN l]) (by simp only [evL,ha0,ha1]) rfl hM hN (md' := md') (hmd := hmd) kk
theorem Ih (mm:Nat) (hmm:mm ≤ 1048576) (l2Add_ih:∀ l pts m,aR l < mm → m = pts.length → m + dB l ≤ 13000000 → MC Tryz.prog 74 [.own 0 0 m 5,sl aN l] [(0,some (flat b8 pts))] 1 (fun _:Unit => True) (fun _ => .own 1 0 (m + dB l) 5) (fun _ => [(1,some (flat b8 (pts ++ fS pts.length l)))])) (l:List AL.Stmt) (pts:List Pnt) (m:Nat) (hs:aR l ≤ mm) (hm:m = pts.length) (hb:m + dB l ≤ 13000000):MC Tryz.prog 74 [.own 0 0 m 5,sl aN l] [(0,some (flat b8 pts))] 1 (fun _:Unit => True) (fun _ => .own 1 0 (m + dB l) 5) (fun _ => [(1,some (flat b8 (pts ++ fS pts.length l)))]):=by
 have hlen := dX l
 subst hm
 refine aU Tryz.func74 Tryz.ntmps74 ?_
 repeat' (first|refine aE ?_|fail)
 refine AW.le ?_ (Le.mv (d := 0) (i := 0) (cs := flat b8 pts) rfl rfl (by decide))
 refine aH (σ := Nat × List Pnt × Nat) [1] [] (fun k => [(5,iv (k.1 : Int)),(0,.own 1 0 k.2.2 5)]) (fun k => [(1,some (flat b8 k.2.1))]) (fun k => k.1 ≤ l.length ∧ k.2.1 = pts ++ fS pts.length (l.take k.1) ∧ k.2.2 = k.2.1.length ∧ k.2.2 = pts.length + dB (l.take k.1)) (fun k => l.length - k.1) (0,pts,pts.length) ⟨by omega,by simp [fS],rfl,by simp [dB]⟩ ?_
 rintro ⟨k,xs,m1⟩ ⟨hk,hxs,hm1,hm2⟩
 dsimp only at hk hxs hm1 hm2 ⊢
 have hck := gP l k
 have hct := l9 l[k]!
 have hnt := D4 l k
 have n9 := KF l[k]!
 have n10 := Da l[k]!
 have n1 := Ir l[k]!
 repeat' (first|(apply aF;first|(apply aJ (t := _);rfl;rfl;rfl;(first|exact (rfl:_=some [_])|exact (rfl:_=some [_,_])|exact (rfl:_=some [_,_,_,_,_]));rfl;rfl)|(apply Bn;rfl;rfl;(rfl);(apply l2Add_ih <;> (first|omega|(simp only [gB] <;> omega)));rfl;rfl))|refine aE ?_|(refine aK ?_ ?_ <;> intro hc hq <;> try (exfalso;omega))|fail)
 ·(refine bB (k + 1, _, _) (Le.renA [(1, 8)]) ?_ ?_)
  ·dsimp only
   rw [AU (by rw [bV,hm1]),AZ (by rw [bV,hm1]),A7 hm1,y4 hm1,gL l _ k (by omega),fI l k (by omega),jH,if_pos hq,n9 hq]
   refine ⟨by omega,?_,by simp [bV]; omega,by omega⟩
   have e1 : xs.length = pts.length + dB (l.take k) := by omega
   rw [← List.append_assoc pts,← hxs,← e1]
   simp only [List.append_assoc,List.length_append,List.length_cons,List.length_nil,bV,hm1,Nat.zero_add]
   clear l2Add_ih hxs hck hnt n9 n10 n1
   grind
  ·dsimp only;omega
 ·(refine bB (k + 1, _, _) (Le.renA [(1, 8)]) ?_ ?_)
  ·dsimp only
   rw [Du hm1,Dj hm1,gL l _ k (by omega),fI l k (by omega),jH,if_neg (by omega),if_pos hq,n10 hq]
   refine ⟨by omega,?_,by simp [bV]; omega,by omega⟩
   have e1 : xs.length = pts.length + dB (l.take k) := by omega
   rw [← List.append_assoc pts,← hxs,← e1]
   simp only [List.append_assoc,List.length_append,List.length_cons,List.length_nil,bV,hm1,Nat.zero_add]
   clear l2Add_ih hxs hck hnt n9 n10 n1
   grind
  ·dsimp only;omega
 ·(refine bB (k + 1, _, _) (Le.renA [(1, 5)]) ?_ ?_)
  ·dsimp only
   rw [gL l _ k (by omega),fI l k (by omega),jH,if_neg ‹¬l[k]!.op = 9›,if_neg hq,n1 ‹¬l[k]!.op = 9› hq]
   refine ⟨by omega,?_,by simp [bV]; omega,by omega⟩
   have e1 : xs.length = pts.length + dB (l.take k) := by omega
   rw [← List.append_assoc pts,← hxs,← e1,hm1]
  ·dsimp only;omega
 ·refine aC rfl ?_
  have e2 : l.take k = l := List.take_of_length_le (by omega)
  rw [e2] at hxs hm2
  refine aP () trivial ?_ ⟨sE ?_,trivial⟩
  ·simp only [aM]; rw [hm2]
  ·rw [hxs]
theorem Nl (l:List AL.Stmt) (pts:List Pnt) (m:Nat) (hs:aR l ≤ 1048576) (hm:m = pts.length) (hb:m + dB l ≤ 13000000):MC Tryz.prog 74 [.own 0 0 m 5,sl aN l] [(0,some (flat b8 pts))] 1 (fun _:Unit => True) (fun _ => .own 1 0 (m + dB l) 5) (fun _ => [(1,some (flat b8 (pts ++ fS pts.length l)))]):=by
 have h : ∀ (mm : Nat), mm ≤ 1048576 → ∀ l pts m, aR l ≤ mm → m = pts.length → m + dB l ≤ 13000000 → MC Tryz.prog 74 [.own 0 0 m 5, sl aN l] [(0, some (flat b8 pts))] 1 (fun _ : Unit => True) (fun _ => .own 1 0 (m + dB l) 5) (fun _ => [(1, some (flat b8 (pts ++ fS pts.length l)))]) := by
  intro mm
  induction mm using Nat.strongRecOn with
  | ind mm ih =>
   intro h0 l pts m h1 h2 h3
   exact Ih mm h0 (fun l' pts' m' g1 g2 g3 => ih _ g1 (by omega) l' pts' m' (Nat.le_refl _) g2 g3) l pts m h1 h2 h3
 exact h _ hs l pts m (Nat.le_refl _) hm hb
theorem dH (p:Prg) (hs:aR p.body ≤ 1048576):PC Tryz.prog 36 [bI p] (fun r => r = sl b8 (aD p)):=by
 have hn := lP p.body
 have e0 : ([] : List AV) = flat b8 [] := rfl
 refine aB Tryz.func36 Tryz.ntmps36 ?_
 repeat' (first|(apply aF;(apply Bn;rfl;rfl;(exact Hs rfl);(apply Nl <;> (first|assumption|omega|(simp only [gB] <;> omega)));rfl;rfl))|refine aE ?_|fail)
 (refine aO (Le.frzD (d := 2) (i := 4) rfl rfl) ?_; refine aC rfl ?_)
 refine ⟨?_,(by (exact bD _ _))⟩
 simp only [aM,sl,aD,List.length_append,List.length_cons,List.length_nil,bV,Nat.zero_add,List.nil_append]
theorem Aw (ts:List Int) (bd:List AL.Stmt) (pts:List Pnt) (v:Int) (h:0 ≤ v ∧ v < ts.length):PC Tryz.prog 116 [aG ts bd pts,iv v] (fun r => r = bv (wZ ts[v.toNat]!)):=by
 refine aB Tryz.func116 Tryz.ntmps116 ?_
 repeat' (first|refine aE ?_|(refine bK ?_ ?_ <;> intro hg hq <;> try (exfalso;omega))|refine cV ?_|fail)
 all_goals (refine ⟨?_,rfl⟩; simp only [aM,AV.v.injEq,Value.bool.injEq,Value.int.injEq,true_and])
 all_goals grind [wZ]
theorem Rr (ts:List Int) (bd:List AL.Stmt) (pts:List Pnt) (x:Pnt) (v:Int) (h:0 ≤ v ∧ v < ts.length):PC Tryz.prog 151 [aG ts bd pts,dJ x,iv v] (fun r => r = iv (aV ts x v)):=by
 refine aB Tryz.func151 Tryz.ntmps151 ?_
 repeat' (first|(apply aF;(apply aA (k := 116);rfl;(apply Aw <;> (assumption));exact Pur.pf;rfl))|refine aE ?_|(refine aK ?_ ?_ <;> intro hc hq <;> try (exfalso;omega))|(refine bK ?_ ?_ <;> intro hg hq <;> try (exfalso;omega))|refine cV ?_|fail)
 all_goals (refine ⟨?_,rfl⟩; simp only [aM,AV.v.injEq,Value.bool.injEq,Value.int.injEq,true_and])
 all_goals grind [wZ,aV]
theorem zX (x:Pnt):PC Tryz.prog 138 [dJ x] (fun r => r = iv (aQ x)):=by
 refine aB Tryz.func138 Tryz.ntmps138 ?_
 repeat' (first|refine aE ?_|(refine aK ?_ ?_ <;> intro hc hq <;> try (exfalso;omega))|refine cV ?_|fail)
 all_goals (refine ⟨?_,rfl⟩; simp only [aM,AV.v.injEq,Value.bool.injEq,Value.int.injEq,true_and])
 all_goals grind [aQ]
theorem mN (x:Pnt):PC Tryz.prog 139 [dJ x] (fun r => r = bv (b9 x)):=by
 refine aB Tryz.func139 Tryz.ntmps139 ?_
 repeat' (first|refine aE ?_|(refine bK ?_ ?_ <;> intro hg hq <;> try (exfalso;omega))|refine cV ?_|fail)
 all_goals (refine ⟨?_,rfl⟩; simp only [aM,AV.v.injEq,Value.bool.injEq,Value.int.injEq,true_and])
 all_goals grind [b9]
theorem p8 (x:Pnt) (h:aQ x < 62):PC Tryz.prog 98 [dJ x] (fun r => r = iv (jD x:Nat)):=by
 refine aB Tryz.func98 Tryz.ntmps98 ?_
 repeat' (first|(apply aF;first|(apply kK;rfl;rfl;infer_instance;omega;rfl;(case' kk => intro hsm))|(apply aA (k := 138);rfl;(apply zX);exact Pur.pf;rfl))|refine aE ?_|(refine aK ?_ ?_ <;> intro hc hq <;> try (exfalso;omega))|refine cV ?_|fail)
 all_goals (refine ⟨?_,rfl⟩; simp only [aM,AV.v.injEq,Value.bool.injEq,Value.int.injEq,true_and])
 all_goals (unfold jD)
 ·rw [if_pos (by omega)]
 ·rw [if_neg (by omega)]; rfl
theorem QA (ts:List Int) (bd:List AL.Stmt) (pts:List Pnt) (h:ts.length ≤ 6):PC Tryz.prog 96 [aG ts bd pts] (fun r => r = iv ((2 ^ ts.length - 1:Nat):Int)):=by
 have h1 : 2 ^ ts.length ≤ 2 ^ 6 := Nat.pow_le_pow_right (by decide) h
 have h2 : 0 < 2 ^ ts.length := Nat.pow_pos (by decide)
 have h3 : 2 ^ (ts.length : Int).toNat ≤ 2 ^ 6 := h1
 have h4 : 2 ^ (ts.length : Int).toNat = 2 ^ ts.length := rfl
 refine aB Tryz.func96 Tryz.ntmps96 ?_
 repeat' (first|(apply aF;(apply kK;rfl;rfl;infer_instance;omega;rfl;(case' kk => intro hsm)))|refine aE ?_|refine cV ?_|fail)
 all_goals (refine ⟨?_,rfl⟩; simp only [aM,AV.v.injEq,Value.bool.injEq,Value.int.injEq,true_and])
 omega
def Km (xs : List Int) (v : Int) : Int := match xs.findIdx? (fun t => decide (t = v)) with | some i => i | none => -1
theorem Nq (xs:List Int) (v:Int) (hl:xs.length ≤ 1048576):PC Tryz.prog 71 [sl cI xs,iv v] (fun r => r = iv (Km xs v)):=by
 refine aB Tryz.func71 Tryz.ntmps71 ?_
 repeat' (first|refine aE ?_|fail)
 refine aH (σ := Nat) [0,1,7] [] (fun k => [(8,iv (k : Int))]) (fun k => []) (fun k => k ≤ xs.length ∧ ∀ i,i < k → xs[i]! ≠ v) (fun k => xs.length - k) (0) ⟨by omega,by omega⟩ ?_
 intro k ⟨hk,hall⟩
 repeat' (first|refine aE ?_|(refine aK ?_ ?_ <;> intro hc hq <;> try (exfalso;omega))|refine cV ?_|fail)
 ·(refine ⟨?_, rfl⟩; simp only [aM, AV.v.injEq, Value.bool.injEq, Value.int.injEq, true_and])
  have hlt : k < xs.length := by omega
  have : xs.findIdx? (fun t => decide (t = v)) = some k := by
   rw [List.findIdx?_eq_some_iff_getElem]
   refine ⟨hlt,?_,fun j hj => ?_⟩
   ·rw [← aY xs k hlt]; grind
   ·have := hall j hj;rw [aY xs j (by omega)] at this;simpa using this
  simp only [Km,this]
 ·(refine bB (k + 1) (Le.renA []) ?_ ?_)
  ·grind
  ·omega
 ·(refine ⟨?_, rfl⟩; simp only [aM, AV.v.injEq, Value.bool.injEq, Value.int.injEq, true_and])
  have : xs.findIdx? (fun t => decide (t = v)) = none := by
   rw [List.findIdx?_eq_none_iff]
   intro x hx
   obtain ⟨i,hi,rfl⟩ := List.getElem_of_mem hx
   have := hall i (by omega);rw [aY xs i hi] at this;simpa using this
  simp only [Km,this]
theorem MM (xs:List Int) (v:Int):decide (0 ≤ Km xs v) = decide (v ∈ xs):=by
 unfold Km
 split
 ·rename_i i h
  obtain ⟨h1,h2,_⟩ := List.findIdx?_eq_some_iff_getElem.1 h
  simp only [decide_eq_true_eq] at h2
  have : v ∈ xs := by rw [← h2]; exact List.getElem_mem h1
  simp [this]
 ·rename_i h
  rw [List.findIdx?_eq_none_iff] at h
  have : v ∉ xs := fun hm => by have := h v hm;simp at this
  simp [this]
theorem oO (xs:List Int) (v:Int) (hl:xs.length ≤ 1048576):PC Tryz.prog 32 [sl cI xs,iv v] (fun r => r = bv (decide (v ∈ xs))):=by
 refine aB Tryz.func32 Tryz.ntmps32 ?_
 repeat' (first|(apply aF;(apply aA (k := 71);rfl;(apply Nq <;> (assumption));exact Pur.pf;rfl))|refine aE ?_|refine cV ?_|fail)
 (refine ⟨?_,rfl⟩; simp only [aM,AV.v.injEq,Value.bool.injEq,Value.int.injEq,true_and])
 exact MM xs v
theorem EV (ts:List Int) (bd:List AL.Stmt) (pts:List Pnt) (x:Pnt) (us:List Int) (h:ts.length ≤ 6) (hu:us.length ≤ 1000):PC Tryz.prog 113 [aG ts bd pts,dJ x,sl cI us] (fun r => r = iv (wS ts x us:Nat)):=by
 refine aB Tryz.func113 Tryz.ntmps113 ?_
 repeat' (first|refine aE ?_|fail)
 refine aH (σ := Nat × Nat) [0,2,4,14] [0] (fun k => [(15,iv (k.1 : Int)),(7,iv (k.2 : Int))]) (fun k => []) (fun k => k.1 ≤ ts.length ∧ k.2 = e8 (fun v => decide (aV ts x v ∈ us)) k.1) (fun k => ts.length - k.1) (0,0) ⟨by omega,rfl⟩ ?_
 rintro ⟨k,A⟩ ⟨hk,hA⟩
 dsimp only at hk hA ⊢
 have hsm : Sm A := hA ▸ b0 (by omega)
 repeat' (first|(apply aF;first|(apply kK;rfl;rfl;infer_instance;omega;rfl;(case' kk => intro hsm))|(first|(apply aA (k := 32);rfl;(apply oO <;> (omega));exact Pur.pf;rfl)|(apply aA (k := 151);rfl;(apply Rr <;> (omega));exact Pur.pf;rfl)))|refine aE ?_|(refine aK ?_ ?_ <;> intro hc hq <;> try (exfalso;omega))|refine cV ?_|fail)
 ·(refine bB (k + 1, _) (Le.renA [(0, 0)]) ?_ ?_)
  ·dsimp only
   rw [hA]
   exact ⟨by omega,sB _ _ (by simpa using hq)⟩
  ·dsimp only;omega
 ·(refine bB (k + 1, _) (Le.renA [(0, 0)]) ?_ ?_)
  ·dsimp only
   rw [hA]
   exact ⟨by omega,mY _ _ (by simpa using hq)⟩
  ·dsimp only;omega
 ·(refine ⟨?_, rfl⟩; simp only [aM, AV.v.injEq, Value.bool.injEq, Value.int.injEq, true_and])
  rw [hA,show k = ts.length by omega]; rfl
theorem gK (ts:List Int) (bd:List AL.Stmt) (pts:List Pnt) (x:Pnt) (h:ts.length ≤ 6):PC Tryz.prog 67 [aG ts bd pts,dJ x] (fun r => r = iv (wS ts x [1,2,3]:Nat)):=by
 refine aB Tryz.func67 Tryz.ntmps67 ?_
 repeat' (first|(apply aF;first|(apply aJ (t := _);rfl;rfl;rfl;(exact (rfl:_=some [_,_,_]));rfl;rfl)|(apply aA (k := 113);rfl;(apply EV (us := [1,2,3]) <;> (first|assumption|decide));exact Pur.pf;rfl))|refine aE ?_|refine cV ?_|fail)
 (refine ⟨?_,rfl⟩; simp only [aM,AV.v.injEq,Value.bool.injEq,Value.int.injEq,true_and])
theorem tO (ts:List Int) (bd:List AL.Stmt) (pts:List Pnt) (x:Pnt) (h:ts.length ≤ 6):PC Tryz.prog 97 [aG ts bd pts,dJ x] (fun r => r = iv (wS ts x [2]:Nat)):=by
 refine aB Tryz.func97 Tryz.ntmps97 ?_
 repeat' (first|(apply aF;first|(apply aJ (t := _);rfl;rfl;rfl;exact (rfl:_=some [_]);rfl;rfl)|(apply aA (k := 113);rfl;(apply EV (us := [2]) <;> (first|assumption|decide));exact Pur.pf;rfl))|refine aE ?_|refine cV ?_|fail)
 (refine ⟨?_,rfl⟩; simp only [aM,AV.v.injEq,Value.bool.injEq,Value.int.injEq,true_and])
theorem BO (ts:List Int) (bd:List AL.Stmt) (pts:List Pnt) (i:Int) (A:Nat) (h:WG ts pts) (hi:0 ≤ i ∧ i < pts.length) (hA:Sm A):PC Tryz.prog 57 [aG ts bd pts,iv i,iv (A:Int)] (fun r => r = iv (iT ts pts[i.toNat]! A:Nat)):=by
 have htl := h.tl
 have hst := (h.set i.toNat (by omega)).1
 have hs1 : Sm (wS ts pts[i.toNat]! [2]) := b0 (by omega)
 have hs2 : Sm (jD pts[i.toNat]!) := tQ (by omega)
 refine aB Tryz.func57 Tryz.ntmps57 ?_
 repeat' (first|(apply aF;(first|(apply aA (k := 97);rfl;(apply tO <;> (assumption));exact Pur.pf;rfl)|(apply aA (k := 98);rfl;(apply p8 <;> (omega));exact Pur.pf;rfl)))|refine aE ?_|refine bH ?_|refine cV ?_|fail)
 (refine ⟨?_,rfl⟩; simp only [aM,AV.v.injEq,Value.bool.injEq,Value.int.injEq,true_and])
 rfl
theorem Ei (ts:List Int) (bd:List AL.Stmt) (pts:List Pnt) (A:List Nat) (w:WG ts pts) (hA:r8 ts pts A):PC Tryz.prog 56 [aG ts bd pts,iv 0,bv false,.clos (.func 57) [aG ts bd pts] []] (fun r => r = .imm pts.length (flat cN A)):=by
 have hpl := w.pl
 have hp0 := w.p0
 have htl := w.tl
 have fl := Rs w
 refine aB Tryz.func56 Tryz.ntmps56 ?_
 repeat' (first|refine aE ?_|fail)
 refine aH (σ := List Nat × Bool) [0,2,3,9] [] (fun s => [(11,bv s.2)]) (fun s => [(0,some (flat cN s.1))]) (fun s => SG pts (Ri ts pts) s.1 ∧ True ∧ (s.2 = false → l4 oW (fun i A => iT ts pts[i]! A) pts s.1)) (fun s => 2 * fH (s.1.map (fun a => 2 ^ ts.length - a)) + s.2.toNat) (((List.replicate pts.length 0).set 0 0),true) ⟨by rw [nO (by rw [aY _ _ (by simpa using hp0),List.getElem_replicate]) (by simpa using hp0)]; exact D6 fun i hi => ⟨Nat.pow_pos (by decide),fun v h => by simp at h⟩,trivial,fun h => by cases h⟩ ?_
 rintro ⟨s,b⟩ ⟨hS,hE,hC⟩
 dsimp only at hS hE hC ⊢
 repeat' (first|refine aE ?_|(refine aK ?_ ?_ <;> intro hc hq <;> try (exfalso;omega))|fail)
 ·refine aH (σ := Nat × (List Nat × Bool)) [0, 2, 3, 9, 43, 44] [] (fun k => [(45, iv (k.1 : Int)), (11, bv k.2.2)]) (fun k => [(0, some (flat cN k.2.1))]) (fun k => k.1 ≤ pts.length ∧ k.2 = (List.range k.1).foldl (Bc oW (fun i A => iT ts pts[i]! A) pts) (s, false) ∧ SG pts (Ri ts pts) k.2.1 ∧ True) (fun k => pts.length - k.1) (0, (s, false)) ⟨by omega, rfl, hS, hE⟩ ?_
  rintro ⟨k,u,c⟩ ⟨hk,hf,hS2,hE2⟩
  dsimp only at hk hf hS2 hE2 ⊢
  have hsm : ∀ z,Sm u[z]! := wJ hS2 (fun i A h => h.1) htl
  have hul := hS2.1
  repeat' (first|(apply aF;(apply gQ;rfl;rfl;infer_instance;rfl;(apply BO <;> (first|assumption|omega|infer_instance));exact Pur.pf;rfl))|refine aE ?_|(refine aK ?_ ?_ <;> intro hc hq <;> try (exfalso;omega))|fail)
  ·have hkn : k < pts.length := by omega
   have hv := tJ w hkn (hS2.2 k hkn).1
   have hvs : Sm (iT ts pts[k]! u[k]!) := ⟨Nat.lt_of_lt_of_le hv (Nat.pow_le_pow_right (by decide) (by omega))⟩
   have hvs' : Sm (iT ts pts[(k : Int).toNat]! u[k]!) := hvs
   have hnl := w.nl k hkn
   refine aH (σ := Nat × (List Nat × Bool)) [0,2,3,9,14,43,44,45,58,59] [] (fun j => [(60,iv (j.1 : Int)),(11,bv j.2.2)]) (fun j => [(0,some (flat cN j.2.1))]) (fun j => j.1 ≤ pts[k]!.next.length ∧ j.2 = ((wQ pts k).take j.1).foldl (l7 oW (iT ts pts[k]! u[k]!)) (u,c) ∧ SG pts (Ri ts pts) j.2.1 ∧ True) (fun j => pts[k]!.next.length - j.1) (0,(u,c)) ⟨by omega,rfl,hS2,hE2⟩ ?_
   rintro ⟨j,u2,c2⟩ ⟨hj,hf2,hS3,hE3⟩
   dsimp only at hj hf2 hS3 hE3 ⊢
   have hsm2 : ∀ z,Sm u2[z]! := wJ hS3 (fun i A h => h.1) htl
   have hul2 := hS3.1
   have hz : j < pts[k]!.next.length → 0 ≤ pts[k]!.next[j]! ∧ pts[k]!.next[j]! < pts.length := fun h => w.nx k hkn _ (aS _ _ h)
   repeat' (first|refine aE ?_|(refine aK ?_ ?_ <;> intro hc hq <;> try (exfalso;omega))|fail)
   ·have hzz := hz (by omega)
    have hed : cO pts k (pts[k]!.next[j]!).toNat := ⟨hkn,by rw [Int.toNat_of_nonneg hzz.1]; exact aS _ _ (by omega)⟩
    have hne : oW u2[(pts[k]!.next[j]!).toNat]! (iT ts pts[k]! u[k]!) ≠ u2[(pts[k]!.next[j]!).toNat]! := fun h => hq (congrArg Int.ofNat h)
    (refine bB (j + 1,(_,true)) (Le.renA [(0,0)]) ?_ ?_)
    ·dsimp only
     refine ⟨by omega,?_,Ae fl w (hS2.2 k hkn) hed hS3,trivial⟩
     rw [jL (by omega),← hf2,Az hne]; rfl
    ·dsimp only;omega
   ·have hzz := hz (by omega)
    have hne : oW u2[(pts[k]!.next[j]!).toNat]! (iT ts pts[k]! u[k]!) = u2[(pts[k]!.next[j]!).toNat]! := Int.ofNat.inj hq
    (refine bB (j + 1,(u2,c2)) (Le.renA [(0,0)]) ?_ ?_)
    ·dsimp only
     refine ⟨by omega,?_,hS3,hE3⟩
     rw [jL (by omega),← hf2,A2 hne]
    ·dsimp only;omega
   ·(refine bB (k + 1, (u2, c2)) (Le.renA [(0, 0)]) ?_ ?_)
    ·dsimp only
     refine ⟨by omega,?_,hS3,hE3⟩
     rw [dW,← hf,hf2,List.take_of_length_le (by rw [l5]; omega)]; rfl
    ·dsimp only;omega
  ·have law := vL w fl s false hS
   have hfull : (u, c) = AH oW (fun i A => iT ts pts[i]! A) pts (s, false) := by
    rw [hf,show k = pts.length by omega]; rfl
   rw [show AH (fun a s => oW a s) (fun i A => iT ts pts[i]! A) pts (s,false) = (u,c) from hfull.symm] at law
   (refine bB (u,c) (Le.renA [(0,0)]) ?_ ?_)
   ·dsimp only
    refine ⟨hS2,hE2,fun h => ?_⟩
    rcases law.2 with ⟨e1,e2⟩ | ⟨e1,_⟩
    ·cases e1;exact e2
    ·dsimp only at e1;rw [h] at e1;cases e1
   ·dsimp only
    have hb : b = true := by assumption
    subst hb
    rcases law.2 with ⟨e1,e2⟩ | ⟨e1,e2⟩
    ·cases e1;simp
    ·dsimp only at e1 e2;subst e1;omega
 ·have hb : b = false := by assumption
  refine aO (Le.frzD (d := 8) (i := 0) rfl rfl) ?_
  refine aC rfl ⟨?_,(by (exact bD _ _))⟩
  simp only [aM]
  rw [GV hA (J0 w hS (hC hb))]
theorem Dl (ts:List Int) (bd:List AL.Stmt) (pts:List Pnt) (A:List Nat) (w:WG ts pts) (hA:sC ts pts A):PC Tryz.prog 56 [aG ts bd pts,iv 0,bv true,.clos (.func 57) [aG ts bd pts] []] (fun r => r = .imm pts.length (flat cN A)):=by
 have hpl := w.pl
 have hp0 := w.p0
 have htl := w.tl
 have fl := Rb w
 refine aB Tryz.func56 Tryz.ntmps56 ?_
 repeat' (first|refine aE ?_|fail)
 refine aH (σ := Nat × List Nat) [0,1,2,3,9,26] [] (fun k => [(27,iv (k.1 : Int))]) (fun k => [(0,some (flat cN k.2))]) (fun k => k.1 ≤ pts.length ∧ k.2 = List.replicate k.1 (2 ^ ts.length - 1) ++ List.replicate (pts.length - k.1) 0) (fun k => pts.length - k.1) (0,List.replicate pts.length 0) ⟨by omega,by simp⟩ ?_
 rintro ⟨k0,u0⟩ ⟨hk0,hu0⟩
 dsimp only at hk0 hu0 ⊢
 have hul0 : u0.length = pts.length := by rw [hu0]; simp;omega
 repeat' (first|(apply aF;(apply aA (k := 96);rfl;(apply QA <;> (assumption));exact Pur.pf;rfl))|refine aE ?_|(refine aK ?_ ?_ <;> intro hc hq <;> try (exfalso;omega))|fail)
 ·(refine bB (k0 + 1, _) (Le.renA [(0, 0)]) ?_ ?_)
  ·dsimp only
   exact ⟨by omega,by rw [hu0]; exact NY (by omega)⟩
  ·dsimp only;omega
 have hk1 : k0 = pts.length := by omega
 subst hk1
 rw [Nat.sub_self,List.replicate_zero,List.append_nil] at hu0
 refine aH (σ := List Nat × Bool) [0,2,3,9] [] (fun s => [(11,bv s.2)]) (fun s => [(0,some (flat cN s.1))]) (fun s => SG pts (Qv ts pts) s.1 ∧ s.1[0]! = 0 ∧ (s.2 = false → l4 Qb (fun i A => iT ts pts[i]! A) pts s.1)) (fun s => 2 * fH (s.1.map (fun a => a)) + s.2.toNat) ((u0.set 0 0),true) ⟨(Ka w hu0).1,(Ka w hu0).2,fun h => by cases h⟩ ?_
 rintro ⟨s,b⟩ ⟨hS,hE,hC⟩
 dsimp only at hS hE hC ⊢
 repeat' (first|refine aE ?_|(refine aK ?_ ?_ <;> intro hc hq <;> try (exfalso;omega))|fail)
 ·refine aH (σ := Nat × (List Nat × Bool)) [0, 2, 3, 9, 43, 44] [] (fun k => [(45, iv (k.1 : Int)), (11, bv k.2.2)]) (fun k => [(0, some (flat cN k.2.1))]) (fun k => k.1 ≤ pts.length ∧ k.2 = (List.range k.1).foldl (Bc Qb (fun i A => iT ts pts[i]! A) pts) (s, false) ∧ SG pts (Qv ts pts) k.2.1 ∧ k.2.1[0]! = 0) (fun k => pts.length - k.1) (0, (s, false)) ⟨by omega, rfl, hS, hE⟩ ?_
  rintro ⟨k,u,c⟩ ⟨hk,hf,hS2,hE2⟩
  dsimp only at hk hf hS2 hE2 ⊢
  have hsm : ∀ z,Sm u[z]! := wJ hS2 (fun i A h => h.1) htl
  have hul := hS2.1
  repeat' (first|(apply aF;(apply gQ;rfl;rfl;infer_instance;rfl;(apply BO <;> (first|assumption|omega|infer_instance));exact Pur.pf;rfl))|refine aE ?_|(refine aK ?_ ?_ <;> intro hc hq <;> try (exfalso;omega))|fail)
  ·have hkn : k < pts.length := by omega
   have hv := tJ w hkn (hS2.2 k hkn).1
   have hvs : Sm (iT ts pts[k]! u[k]!) := ⟨Nat.lt_of_lt_of_le hv (Nat.pow_le_pow_right (by decide) (by omega))⟩
   have hvs' : Sm (iT ts pts[(k : Int).toNat]! u[k]!) := hvs
   have hnl := w.nl k hkn
   refine aH (σ := Nat × (List Nat × Bool)) [0,2,3,9,14,43,44,45,58,59] [] (fun j => [(60,iv (j.1 : Int)),(11,bv j.2.2)]) (fun j => [(0,some (flat cN j.2.1))]) (fun j => j.1 ≤ pts[k]!.next.length ∧ j.2 = ((wQ pts k).take j.1).foldl (l7 Qb (iT ts pts[k]! u[k]!)) (u,c) ∧ SG pts (Qv ts pts) j.2.1 ∧ j.2.1[0]! = 0) (fun j => pts[k]!.next.length - j.1) (0,(u,c)) ⟨by omega,rfl,hS2,hE2⟩ ?_
   rintro ⟨j,u2,c2⟩ ⟨hj,hf2,hS3,hE3⟩
   dsimp only at hj hf2 hS3 hE3 ⊢
   have hsm2 : ∀ z,Sm u2[z]! := wJ hS3 (fun i A h => h.1) htl
   have hul2 := hS3.1
   have hz : j < pts[k]!.next.length → 0 ≤ pts[k]!.next[j]! ∧ pts[k]!.next[j]! < pts.length := fun h => w.nx k hkn _ (aS _ _ h)
   repeat' (first|refine aE ?_|(refine aK ?_ ?_ <;> intro hc hq <;> try (exfalso;omega))|fail)
   ·have hzz := hz (by omega)
    have hed : cO pts k (pts[k]!.next[j]!).toNat := ⟨hkn,by rw [Int.toNat_of_nonneg hzz.1]; exact aS _ _ (by omega)⟩
    have hne : Qb u2[(pts[k]!.next[j]!).toNat]! (iT ts pts[k]! u[k]!) ≠ u2[(pts[k]!.next[j]!).toNat]! := fun h => hq (congrArg Int.ofNat h)
    (refine bB (j + 1,(_,true)) (Le.renA [(0,0)]) ?_ ?_)
    ·dsimp only
     refine ⟨by omega,?_,Ae fl w (hS2.2 k hkn) hed hS3,(by rw [dF _ _ _ _ (by rw [hS3.1]; exact cZ w hed)]; split <;> first|exact hE3|(rename_i q;rw [← q,hE3]; exact Nat.zero_and _))⟩
     rw [jL (by omega),← hf2,Az hne]; rfl
    ·dsimp only;omega
   ·have hzz := hz (by omega)
    have hne : Qb u2[(pts[k]!.next[j]!).toNat]! (iT ts pts[k]! u[k]!) = u2[(pts[k]!.next[j]!).toNat]! := Int.ofNat.inj hq
    (refine bB (j + 1,(u2,c2)) (Le.renA [(0,0)]) ?_ ?_)
    ·dsimp only
     refine ⟨by omega,?_,hS3,hE3⟩
     rw [jL (by omega),← hf2,A2 hne]
    ·dsimp only;omega
   ·(refine bB (k + 1, (u2, c2)) (Le.renA [(0, 0)]) ?_ ?_)
    ·dsimp only
     refine ⟨by omega,?_,hS3,hE3⟩
     rw [dW,← hf,hf2,List.take_of_length_le (by rw [l5]; omega)]; rfl
    ·dsimp only;omega
  ·have law := vL w fl s false hS
   have hfull : (u, c) = AH Qb (fun i A => iT ts pts[i]! A) pts (s, false) := by
    rw [hf,show k = pts.length by omega]; rfl
   rw [show AH (fun a s => Qb a s) (fun i A => iT ts pts[i]! A) pts (s,false) = (u,c) from hfull.symm] at law
   (refine bB (u,c) (Le.renA [(0,0)]) ?_ ?_)
   ·dsimp only
    refine ⟨hS2,hE2,fun h => ?_⟩
    rcases law.2 with ⟨e1,e2⟩ | ⟨e1,_⟩
    ·cases e1;exact e2
    ·dsimp only at e1;rw [h] at e1;cases e1
   ·dsimp only
    have hb : b = true := by assumption
    subst hb
    rcases law.2 with ⟨e1,e2⟩ | ⟨e1,e2⟩
    ·cases e1;simp
    ·dsimp only at e1 e2;subst e1;omega
 ·have hb : b = false := by assumption
  refine aO (Le.frzD (d := 8) (i := 0) rfl rfl) ?_
  refine aC rfl ⟨?_,(by (exact bD _ _))⟩
  simp only [aM]
  rw [He hA (JD w hS hE (hC hb))]
theorem Ix (ts:List Int) (bd:List AL.Stmt) (pts:List Pnt) (A:List Nat) (w:WG ts pts) (hA:sC ts pts A):PC Tryz.prog 87 [aG ts bd pts,iv 0] (fun r => r = .imm pts.length (flat cN A)):=by
 refine aB Tryz.func87 Tryz.ntmps87 ?_
 repeat' (first|(apply aF;(apply aA (k := 56);rfl;exact Dl ts bd pts A w hA;exact Pur.pf;rfl))|refine aE ?_|refine cV ?_|fail)
 exact ⟨rfl,(by (exact bD _ _))⟩
theorem FN (ts:List Int) (bd:List AL.Stmt) (pts:List Pnt) (A:List Nat) (w:WG ts pts) (hA:r8 ts pts A):PC Tryz.prog 22 [aG ts bd pts] (fun r => r = .imm pts.length (flat cN A)):=by
 refine aB Tryz.func22 Tryz.ntmps22 ?_
 repeat' (first|(apply aF;(apply aA (k := 56);rfl;exact Ei ts bd pts A w hA;exact Pur.pf;rfl))|refine aE ?_|refine cV ?_|fail)
 exact ⟨rfl,(by (exact bD _ _))⟩
theorem ED (ts:List Int) (bd:List AL.Stmt) (pts:List Pnt) (n:Nat) (B:List Nat) (i:Int) (w:WG ts pts) (hn:n = B.length) (hB:B.length = pts.length) (hs:∀ z:Nat,Sm B[z]!) (hi:0 ≤ i ∧ i < pts.length):PC Tryz.prog 93 [aG ts bd pts,.imm n (flat cN B),iv i] (fun r => r = iv (L8 pts B i.toNat:Nat)):=by
 subst hn
 have hin : i.toNat < pts.length := by omega
 have hnl := w.nl _ hin
 have hpl := w.pl
 refine aB Tryz.func93 Tryz.ntmps93 ?_
 repeat' (first|refine aE ?_|fail)
 refine aH (σ := Nat × Nat) [1,17,18] [] (fun k => [(19,iv (k.1 : Int)),(7,iv (k.2 : Int))]) (fun k => []) (fun k => k.1 ≤ pts[i.toNat]!.next.length ∧ k.2 = ((wQ pts i.toNat).take k.1).foldl (fun a k => oW a B[k]!) 0 ∧ Sm k.2) (fun k => pts[i.toNat]!.next.length - k.1) (0,0) ⟨by omega,rfl,inferInstance⟩ ?_
 rintro ⟨k,a⟩ ⟨hk,ha,hsa⟩
 dsimp only at hk ha hsa ⊢
 have hz : k < pts[i.toNat]!.next.length → 0 ≤ pts[i.toNat]!.next[k]! ∧ pts[i.toNat]!.next[k]! < pts.length := fun h => w.nx _ hin _ (aS _ _ h)
 repeat' (first|refine aE ?_|(refine aK ?_ ?_ <;> intro hc hq <;> try (exfalso;omega))|refine cV ?_|fail)
 ·(refine bB (k + 1, _) (Le.renA []) ?_ ?_)
  ·dsimp only
   refine ⟨by omega,?_,inferInstance⟩
   rw [dR _ _ _ _ (by rw [l5]; omega),AF (by omega),← ha]
  ·dsimp only;omega
 ·(refine ⟨?_, rfl⟩; simp only [aM, AV.v.injEq, Value.bool.injEq, Value.int.injEq, true_and])
  rw [ha,List.take_of_length_le (by rw [l5]; omega)]; rfl
theorem IE (ts:List Int) (bd:List AL.Stmt) (pts:List Pnt) (A:List Nat) (w:WG ts pts) (hA:u7 ts pts A):PC Tryz.prog 92 [aG ts bd pts] (fun r => r = .imm pts.length (flat cN A)):=by
 have hpl := w.pl
 have hp0 := w.p0
 have htl := w.tl
 refine aB Tryz.func92 Tryz.ntmps92 ?_
 repeat' (first|refine aE ?_|fail)
 refine aH (σ := List Nat × Bool) [0,3] [] (fun s => [(4,bv s.2)]) (fun s => [(0,some (flat cN s.1))]) (fun s => SN ts pts s.1 ∧ (s.2 = false → ∀ i,i < pts.length → rQ ts pts s.1 i = s.1[i]!)) (fun s => 2 * fH (s.1.map (fun a => 2 ^ ts.length - a)) + s.2.toNat) (List.replicate pts.length 0,true) ⟨Qj,fun h => by cases h⟩ ?_
 rintro ⟨s,b⟩ ⟨hS,hC⟩
 dsimp only at hS hC ⊢
 repeat' (first|refine aE ?_|(refine aK ?_ ?_ <;> intro hc hq <;> try (exfalso;omega))|fail)
 ·refine aH (σ := Nat × Int × (List Nat × Bool)) [0, 3] [] (fun k => [(5, iv k.2.1), (4, bv k.2.2.2)]) (fun k => [(0, some (flat cN k.2.2.1))]) (fun k => k.1 ≤ pts.length ∧ k.2.1 = (pts.length : Int) - 1 - k.1 ∧ k.2.2 = ((List.range pts.length).reverse.take k.1).foldl (mG ts pts) (s, false) ∧ SN ts pts k.2.2.1) (fun k => pts.length - k.1) (0, (pts.length : Int) - 1, (s, false)) ⟨by omega, by simp, rfl, hS⟩ ?_
  rintro ⟨k,z,u,c⟩ ⟨hk,hz,hf,hS2⟩
  dsimp only at hk hz hf hS2 ⊢
  have hsm : ∀ z : Nat,Sm u[z]! := wJ hS2.1 (fun i A h => h.1) htl
  have hul := hS2.1.1
  have hst := fun h : z.toNat < pts.length => (w.set z.toNat h).1
  have hst2 : aQ pts[z.toNat]! < 62 := by
   by_cases h : z.toNat < pts.length
   ·have := hst h;omega
   ·rw [getElem!_neg pts z.toNat h]; decide
  have hs1 : Sm (wS ts pts[z.toNat]! [1,2,3]) := b0 (by omega)
  have hs2 : Sm (jD pts[z.toNat]!) := tQ (by omega)
  have hs3 : Sm (L8 pts u z.toNat) := by
   unfold L8
   have : ∀ (L : List Nat) (a : Nat), Sm a → Sm (L.foldl (fun a k => a ||| u[k]!) a) := by
    intro L;induction L with
    | nil => exact fun a h => h
    | cons x L ih => exact fun a h => ih _ (inferInstance : Sm (a ||| u[x]!))
   exact this _ _ inferInstance
  have hlaw := fun h : z.toNat < pts.length => xR w u c z.toNat h hS2
  repeat' (first|(apply aF;(first|(apply aA (k := 67);rfl;(apply gK <;> (assumption));exact Pur.pf;rfl)|(apply aA (k := 98);rfl;(apply p8 <;> (assumption));exact Pur.pf;rfl)|(apply qO (k := 93);(case ha => rfl);(case hl => (repeat' (first|exact oB|apply l3|exact z6|exact n0 rfl inferInstance|exact DC inferInstance)));(case h => (apply ED <;> (first|assumption|omega)));(case hfr|hN => rfl);(case hmd => infer_instance))))|refine aE ?_|(refine aK ?_ ?_ <;> intro hc hq <;> try (exfalso;omega))|refine bH ?_|fail)
  ·have hzn : z.toNat < pts.length := by omega
   have hne : rQ ts pts u z.toNat ≠ u[z.toNat]! := fun h => hq (congrArg Int.ofNat h)
   have hl := hlaw hzn
   rw [Ey hne] at hl
   have hrg : (List.range pts.length).reverse[k]! = z.toNat := by rw [CE (by omega)]; omega
   (refine bB (k + 1,_,(_,true)) (Le.renA [(0,0)]) ?_ ?_)
   ·dsimp only
    refine ⟨by omega,by omega,?_,hl.1⟩
    rw [dR _ _ _ _ (by simp;omega),← hf,hrg,Ey hne]; rfl
   ·dsimp only;omega
  ·have hzn : z.toNat < pts.length := by omega
   have hne : rQ ts pts u z.toNat = u[z.toNat]! := Int.ofNat.inj hq
   have hrg : (List.range pts.length).reverse[k]! = z.toNat := by rw [CE (by omega)]; omega
   (refine bB (k + 1,_,(u,c)) (Le.renA [(0,0)]) ?_ ?_)
   ·dsimp only
    refine ⟨by omega,by omega,?_,hS2⟩
    rw [dR _ _ _ _ (by simp;omega),← hf,hrg,NV hne]
   ·dsimp only;omega
  ·have law := GY w s false hS
   have hfull : (u, c) = Bx ts pts (s, false) := by
    rw [hf,List.take_of_length_le (by simp;omega)]; rfl
   rw [← hfull] at law
   (refine bB (u,c) (Le.renA [(0,0)]) ?_ ?_)
   ·dsimp only
    refine ⟨hS2,fun h => ?_⟩
    rcases law.2 with ⟨e1,e2⟩ | ⟨e1,_⟩
    ·cases e1;exact e2
    ·dsimp only at e1;rw [h] at e1;cases e1
   ·dsimp only
    have hb : b = true := by assumption
    subst hb
    rcases law.2 with ⟨e1,e2⟩ | ⟨e1,e2⟩
    ·cases e1;simp
    ·dsimp only at e1 e2;subst e1;omega
 ·have hb : b = false := by assumption
  refine aO (Le.frzD (d := 2) (i := 0) rfl rfl) ?_
  refine aC rfl ⟨?_,(by (exact bD _ _))⟩
  simp only [aM]
  rw [Hp hA (Iy w hS (hC hb))]
theorem BB (ts:List Int) (bd:List AL.Stmt) (pts:List Pnt) (B A:List Nat) (w:WG ts pts) (hB:u7 ts pts B) (hA:sG ts pts A):PC Tryz.prog 51 [aG ts bd pts] (fun r => r = .imm pts.length (flat cN A)):=by
 have hpl := w.pl
 have htl := w.tl
 have hBl := hB.1
 have hsm : ∀ z : Nat, Sm B[z]! := by
  intro z
  by_cases hz : z < pts.length
  ·refine ⟨Nat.lt_of_lt_of_le (Nat.lt_pow_two_of_testBit _ (n := 6) fun v hv => ?_) (by decide)⟩
   cases hq : B[z]!.testBit v with
   | false => rfl
   | true => have := uO w ((hB.2 z hz v).1 hq);dsimp only at this;omega
  ·rw [getElem!_neg B z (by rw [hBl]; exact hz)]; exact ⟨by decide⟩
 refine aB Tryz.func51 Tryz.ntmps51 ?_
 repeat' (first|(apply aF;(apply aA (k := 92);rfl;(apply IE <;> (assumption));exact Pur.pf;rfl))|refine aE ?_|fail)
 refine AW.le ?_ (Le.nilOwn (d := 4) 1 rfl (by decide))
 refine aH (σ := Nat × List Nat) [0,3,12] [] (fun k => [(13,iv (k.1 : Int)),(4,.own 0 0 k.1 1)]) (fun k => [(0,some (flat cN k.2))]) (fun k => k.1 ≤ pts.length ∧ k.2 = (List.range k.1).map (L8 pts B)) (fun k => pts.length - k.1) (0,[]) ⟨by omega,rfl⟩ ?_
 rintro ⟨k,u⟩ ⟨hk,hu⟩
 dsimp only at hk hu ⊢
 have hul : u.length = k := by rw [hu]; simp
 repeat' (first|(apply aF;first|(apply aJ (t := _);rfl;rfl;rfl;exact (rfl:_=some [_]);rfl;rfl)|(apply aA (k := 93);rfl;(apply ED <;> (first|assumption|omega));exact Pur.pf;rfl))|refine aE ?_|(refine aK ?_ ?_ <;> intro hc hq <;> try (exfalso;omega))|fail)
 ·(refine bB (k + 1, _) (Le.renA [(0, 2)]) ?_ ?_)
  ·dsimp only
   refine ⟨by omega,?_⟩
   rw [hu,List.range_succ,List.map_append]; rfl
  ·dsimp only;omega
 ·refine aO (Le.frzD (d := 2) (i := 0) rfl rfl) ?_
  refine aC rfl ⟨?_,(by (exact bD _ _))⟩
  simp only [aM]
  have hkn : k = pts.length := by omega
  subst hkn
  rw [xF hA (Ct w hB),hu]
theorem fR (A:Nat) (hA:Sm A):PC Tryz.prog 21 [iv (A:Int)] (fun r => r = sl cI (a7 A)):=by
 refine aB Tryz.func21 Tryz.ntmps21 ?_
 repeat' (first|refine aE ?_|fail)
 refine AW.le ?_ (Le.nilOwn (d := 3) 1 rfl (by decide))
 refine aH (σ := Nat × List Int × Nat) [0] [] (fun k => [(4,iv (k.1 : Int)),(3,.own 0 0 k.2.2 1)]) (fun k => [(0,some (flat cI k.2.1))]) (fun k => k.1 ≤ 62 ∧ k.2.1 = ((List.range k.1).filter (A.testBit ·)).map (fun v : Nat => (v : Int)) ∧ k.2.2 = k.2.1.length ∧ k.2.2 ≤ k.1) (fun k => 62 - k.1) (0,[],0) ⟨by omega,rfl,rfl,Nat.le_refl _⟩ ?_
 rintro ⟨k,u,m⟩ ⟨hk,hu,hm,hmk⟩
 dsimp only at hk hu hm hmk ⊢
 repeat' (first|(apply aF;(apply aJ (t := _);rfl;rfl;rfl;exact (rfl:_=some [_]);rfl;rfl))|refine aE ?_|(refine aK ?_ ?_ <;> intro hc hq <;> try (exfalso;omega))|fail)
 ·have hlt := E7 hA (show 0 < ((A >>> k : Nat) : Int) by assumption)
  (refine bB (k + 1,_,_) (Le.renA [(0,2)]) ?_ ?_)
  ·dsimp only
   exact ⟨by omega,yT hq hu,by simp;omega,by omega⟩
  ·dsimp only;omega
 ·have hlt := E7 hA (show 0 < ((A >>> k : Nat) : Int) by assumption)
  (refine bB (k + 1,u,m) (Le.renA [(0,0)]) ?_ ?_)
  ·dsimp only
   exact ⟨by omega,xG hq hu,hm,by omega⟩
  ·dsimp only;omega
 ·(refine aO (Le.frzD (d := 2) (i := 0) rfl rfl) ?_; refine aC rfl ?_)
  refine ⟨?_,(by (exact bD _ _))⟩
  simp only [aM,sl]
  rw [rN (k := k) (fun v hv => Jj hq v hv) (by omega) hA,← hu,← hm]
theorem uK (A:Nat) (hA:Sm A):PC Tryz.prog 89 [.v (.int .u64 (A:Int))] (fun r => r = sl cI (a7 A)):=by
 refine aB Tryz.func89 Tryz.ntmps89 ?_
 repeat' (first|refine aE ?_|fail)
 refine AW.le ?_ (Le.nilOwn (d := 3) 1 rfl (by decide))
 refine aH (σ := Nat × List Int × Nat) [0] [] (fun k => [(5,iv (k.1 : Int)),(3,.own 0 0 k.2.2 1)]) (fun k => [(0,some (flat cI k.2.1))]) (fun k => k.1 ≤ 64 ∧ k.2.1 = ((List.range k.1).filter (A.testBit ·)).map (fun v : Nat => (v : Int)) ∧ k.2.2 = k.2.1.length ∧ k.2.2 ≤ k.1) (fun k => 64 - k.1) (0,[],0) ⟨by omega,rfl,rfl,Nat.le_refl _⟩ ?_
 rintro ⟨k,u,m⟩ ⟨hk,hu,hm,hmk⟩
 dsimp only at hk hu hm hmk ⊢
 repeat' (first|(apply aF;(apply aJ (t := _);rfl;rfl;rfl;exact (rfl:_=some [_]);rfl;rfl))|refine aE ?_|(refine aK ?_ ?_ <;> intro hc hq <;> try (exfalso;omega))|fail)
 ·(refine bB (k + 1, _, _) (Le.renA [(0, 2)]) ?_ ?_)
  ·dsimp only
   exact ⟨by omega,yT hq hu,by simp;omega,by omega⟩
  ·dsimp only;omega
 ·(refine bB (k + 1, u, m) (Le.renA [(0, 0)]) ?_ ?_)
  ·dsimp only
   exact ⟨by omega,xG hq hu,hm,by omega⟩
  ·dsimp only;omega
 ·(refine aO (Le.frzD (d := 2) (i := 0) rfl rfl) ?_; refine aC rfl ?_)
  refine ⟨?_,(by (exact bD _ _))⟩
  simp only [aM,sl]
  rw [rN (k := k) (fun v hv => Nat.testBit_lt_two_pow (Nat.lt_of_lt_of_le hA.pf (Nat.pow_le_pow_right (by decide) (by omega)))) (by omega) hA,← hu,← hm]
theorem Bv (ts:List Int) (bd:List AL.Stmt) (pts:List Pnt) (V:Nat) (w:WG ts pts) (hV:Sm V):PC Tryz.prog 141 [aG ts bd pts,iv (V:Int)] (fun r => r = .v (.int .u64 (sY pts V:Nat))):=by
 have hpl := w.pl
 have htl := w.tl
 refine aB Tryz.func141 Tryz.ntmps141 ?_
 repeat' (first|refine aE ?_|fail)
 refine aH (σ := Nat × Nat) [1,11,12] [] (fun k => [(13,iv (k.1 : Int)),(5,.v (.int .u64 (k.2 : Int)))]) (fun k => []) (fun k => k.1 ≤ pts.length ∧ k.2 = e8 (fun l => b9 pts[l]! && V.testBit (pts[l]!.y.toNat)) k.1) (fun k => pts.length - k.1) (0,0) ⟨by omega,rfl⟩ ?_
 rintro ⟨k,A⟩ ⟨hk,hA⟩
 dsimp only at hk hA ⊢
 have hsm : Sm A := hA ▸ b0 (by omega)
 cases hln : b9 pts[k]!
 ·repeat' (first | (apply aF; (apply aA (k := 139);rfl;(apply mN);exact Pur.pf;rfl)) | refine aE ?_ | (refine aK ?_ ?_ <;> intro hc hq <;> try (exfalso; omega)) | refine cV ?_|fail)
  ·(refine bB (k + 1, A) (Le.renA []) ?_ ?_)
   ·dsimp only
    exact ⟨by omega,by rw [hA]; exact mY _ _ (by rw [hln]; rfl)⟩
   ·dsimp only;omega
  ·(refine ⟨?_, rfl⟩; simp only [aM, AV.v.injEq, Value.bool.injEq, Value.int.injEq, true_and])
   rw [hA,show k = pts.length by omega]; rfl
 ·have hy := fun (h : k < pts.length) => rW w h hln
  repeat' (first|(apply aF;first|(apply kK;rfl;rfl;infer_instance;omega;rfl;(case' kk => intro hsm))|(apply aA (k := 139);rfl;(apply mN);exact Pur.pf;rfl))|refine aE ?_|(refine aK ?_ ?_ <;> intro hc hq <;> try (exfalso;omega))|refine cV ?_|fail)
  ·(refine bB (k + 1, _) (Le.renA []) ?_ ?_)
   ·dsimp only
    exact ⟨by omega,by rw [hA]; exact sB _ _ (by rw [hln,Bool.true_and]; exact (mP _ _).1 hq)⟩
   ·dsimp only;omega
  ·(refine bB (k + 1, A) (Le.renA []) ?_ ?_)
   ·dsimp only
    exact ⟨by omega,by rw [hA]; exact mY _ _ (by rw [hln,Bool.true_and]; cases hb : V.testBit (pts[k]!.y.toNat) with|false => rfl|true => exact absurd ((mP _ _).2 hb) hq)⟩
   ·dsimp only;omega
  ·(refine ⟨?_, rfl⟩; simp only [aM, AV.v.injEq, Value.bool.injEq, Value.int.injEq, true_and])
   rw [hA,show k = pts.length by omega]; rfl
theorem Jr (ts:List Int) (bd:List AL.Stmt) (pts:List Pnt) (A:List Nat) (w:WG ts pts) (hA:sR ts pts A):PC Tryz.prog 88 [aG ts bd pts] (fun r => r = .imm pts.length (flat cW A)):=by
 have hpl := w.pl
 have hp0 := w.p0
 have htl := w.tl
 have fl := QV w
 refine aB Tryz.func88 Tryz.ntmps88 ?_
 repeat' (first|refine aE ?_|fail)
 refine aH (σ := List Nat × Bool) [0,3] [] (fun s => [(4,bv s.2)]) (fun s => [(0,some (flat cW s.1))]) (fun s => SG pts (QY ts pts) s.1 ∧ (s.2 = false → l4 oW (Aq ts pts) pts s.1)) (fun s => 2 * fH (s.1.map (fun a => 2 ^ pts.length - a)) + s.2.toNat) (List.replicate pts.length 0,true) ⟨D6 fun i hi => ⟨Nat.pow_pos (by decide),fun v h => by simp at h⟩,fun h => by cases h⟩ ?_
 rintro ⟨s,b⟩ ⟨hS,hC⟩
 dsimp only at hS hC ⊢
 repeat' (first|refine aE ?_|(refine aK ?_ ?_ <;> intro hc hq <;> try (exfalso;omega))|fail)
 ·refine aH (σ := Nat × (List Nat × Bool)) [0, 3, 20, 21] [] (fun k => [(22, iv (k.1 : Int)), (4, bv k.2.2)]) (fun k => [(0, some (flat cW k.2.1))]) (fun k => k.1 ≤ pts.length ∧ k.2 = (List.range k.1).foldl (Bc oW (Aq ts pts) pts) (s, false) ∧ SG pts (QY ts pts) k.2.1) (fun k => pts.length - k.1) (0, (s, false)) ⟨by omega, rfl, hS⟩ ?_
  rintro ⟨k,u,c⟩ ⟨hk,hf,hS2⟩
  dsimp only at hk hf hS2 ⊢
  have hul := hS2.1
  by_cases hkn : k < pts.length
  ·have hst := (w.set k hkn).1
   have hsm : ∀ z : Nat, Sm u[z]! := by
    intro z
    by_cases hz : z < pts.length
    ·exact ⟨Nat.lt_of_lt_of_le (hS2.2 z hz).1 (Nat.pow_le_pow_right (by decide) (by omega))⟩
    ·rw [getElem!_neg u z (by rw [hul]; exact hz)]; exact ⟨by decide⟩
   have hs1 : Sm (wS ts pts[k]! [2]) := b0 (by omega)
   have hs2 : Sm (jD pts[k]!) := tQ (by omega)
   have hs3 : ∀ V,Sm (sY pts V) := fun V => IN w V
   have hnl := w.nl k hkn
   have e1 : b9 pts[k]! = true → oJ u[k]! (sY pts (wS ts pts[k]! [2] ||| jD pts[k]!)) ||| 2 ^ (k : Int).toNat = Aq ts pts k u[k]! := fun h => by unfold Aq Ou;rw [if_pos h]; rfl
   have e0 : b9 pts[k]! = false → oJ u[k]! (sY pts (wS ts pts[k]! [2] ||| jD pts[k]!)) = Aq ts pts k u[k]! := fun h => by unfold Aq Ou;rw [if_neg (by rw [h]; simp),Nat.or_zero]
   have hps : Sm (Aq ts pts k u[k]!) := ⟨Nat.lt_of_lt_of_le (Ec w hkn (hS2.2 k hkn).1) (Nat.pow_le_pow_right (by decide) (by omega))⟩
   repeat' (first|(apply aF;first|(apply kK;rfl;rfl;infer_instance;omega;rfl;(case' kk => intro hsm))|(first|(apply aA (k := 97);rfl;(apply tO <;> (assumption));exact Pur.pf;rfl)|(apply aA (k := 98);rfl;(apply p8 <;> (omega));exact Pur.pf;rfl)|(apply aA (k := 139);rfl;(apply mN);exact Pur.pf;rfl)|(apply aA (k := 141);rfl;(apply Bv <;> (first|assumption|infer_instance));exact Pur.pf;rfl)))|refine aE ?_|(refine aK ?_ ?_ <;> intro hc hq <;> try (exfalso;omega))|refine bH ?_|fail)
   all_goals first|rw [e1 (by assumption)]|rw [e0 (by assumption)]
   all_goals
    refine aH (σ := Nat × (List Nat × Bool)) [0,3,7,20,21,22,47,48] [] (fun j => [(49,iv (j.1 : Int)),(4,bv j.2.2)]) (fun j => [(0,some (flat cW j.2.1))]) (fun j => j.1 ≤ pts[k]!.next.length ∧ j.2 = ((wQ pts k).take j.1).foldl (l7 oW (Aq ts pts k u[k]!)) (u,c) ∧ SG pts (QY ts pts) j.2.1) (fun j => pts[k]!.next.length - j.1) (0,(u,c)) ⟨by omega,rfl,hS2⟩ ?_
    rintro ⟨j,u2,c2⟩ ⟨hj,hf2,hS3⟩
    dsimp only at hj hf2 hS3 ⊢
    have hul2 := hS3.1
    have hsm2 : ∀ z : Nat, Sm u2[z]! := by
     intro z
     by_cases hz : z < pts.length
     ·exact ⟨Nat.lt_of_lt_of_le (hS3.2 z hz).1 (Nat.pow_le_pow_right (by decide) (by omega))⟩
     ·rw [getElem!_neg u2 z (by rw [hul2]; exact hz)]; exact ⟨by decide⟩
    have hz : j < pts[k]!.next.length → 0 ≤ pts[k]!.next[j]! ∧ pts[k]!.next[j]! < pts.length := fun h => w.nx k hkn _ (aS _ _ h)
    repeat' (first|refine aE ?_|(refine aK ?_ ?_ <;> intro hc hq <;> try (exfalso;omega))|refine bH ?_|fail)
    ·have hzz := hz (by omega)
     have hed : cO pts k (pts[k]!.next[j]!).toNat := ⟨hkn,by rw [Int.toNat_of_nonneg hzz.1]; exact aS _ _ (by omega)⟩
     have hne : oW u2[(pts[k]!.next[j]!).toNat]! (Aq ts pts k u[k]!) ≠ u2[(pts[k]!.next[j]!).toNat]! := fun h => hq (congrArg Int.ofNat h)
     (refine bB (j + 1,(_,true)) (Le.renA [(0,0)]) ?_ ?_)
     ·dsimp only
      refine ⟨by omega,?_,Ae fl w (hS2.2 k hkn) hed hS3⟩
      rw [jL (by omega),← hf2,Az hne]
     ·dsimp only;omega
    ·have hzz := hz (by omega)
     have hne : oW u2[(pts[k]!.next[j]!).toNat]! (Aq ts pts k u[k]!) = u2[(pts[k]!.next[j]!).toNat]! := Int.ofNat.inj hq
     (refine bB (j + 1,(u2,c2)) (Le.renA [(0,0)]) ?_ ?_)
     ·dsimp only
      refine ⟨by omega,?_,hS3⟩
      rw [jL (by omega),← hf2,A2 hne]
     ·dsimp only;omega
    ·(refine bB (k + 1, (u2, c2)) (Le.renA [(0, 0)]) ?_ ?_)
     ·dsimp only
      refine ⟨by omega,?_,hS3⟩
      rw [dW,← hf,hf2,List.take_of_length_le (by rw [l5]; omega)]; rfl
     ·dsimp only;omega
  ·repeat' (first | refine aE ?_ | (refine aK ?_ ?_ <;> intro hc hq <;> try (exfalso; omega))|fail)
   have law := vL w fl s false hS
   have hfull : (u, c) = AH oW (Aq ts pts) pts (s, false) := by
    rw [hf,show k = pts.length by omega]; rfl
   rw [← hfull] at law
   (refine bB (u,c) (Le.renA [(0,0)]) ?_ ?_)
   ·dsimp only
    refine ⟨hS2,fun h => ?_⟩
    rcases law.2 with ⟨e1,e2⟩ | ⟨e1,_⟩
    ·cases e1;exact e2
    ·dsimp only at e1;rw [h] at e1;cases e1
   ·dsimp only
    have hb : b = true := by assumption
    subst hb
    rcases law.2 with ⟨e1,e2⟩ | ⟨e1,e2⟩
    ·cases e1;simp
    ·dsimp only at e1 e2;subst e1;omega
 ·have hb : b = false := by assumption
  refine aO (Le.frzD (d := 2) (i := 0) rfl rfl) ?_
  refine aC rfl ⟨?_,(by (exact bD _ _))⟩
  simp only [aM]
  rw [Gf hA (KU w hS (hC hb))]
theorem D9 (ts:List Int) (bd:List AL.Stmt) (pts:List Pnt) (i:Int) (f:List Nat) (w:WG ts pts) (hi:0 ≤ i ∧ i < pts.length) (hf:f.length = 6) (hs:∀ z:Nat,Sm f[z]!):PC Tryz.prog 86 [aG ts bd pts,iv i,.agg (flat cW f)] (fun r => r = .agg (flat cW (AB ts pts i.toNat f))):=by
 have hpl := w.pl
 have htl := w.tl
 have hin : i.toNat < pts.length := by omega
 have hst := (w.set i.toNat hin)
 have hy := w.y i.toNat hin
 have hbl := cK (wS ts pts[i.toNat]! [2])
 have hT : Sm (wS ts pts[i.toNat]! [2]) := b0 (by omega)
 refine aB Tryz.func86 Tryz.ntmps86 ?_
 repeat' (first|(apply aF;(first|(apply aA (k := 21);rfl;(apply fR <;> (assumption));(rfl);rfl)|(apply aA (k := 97);rfl;(apply tO <;> (assumption));exact Pur.pf;rfl)))|refine aE ?_|fail)
 refine aH (σ := Nat × List Nat) [0,1,5,6,7,8,23,24] [0,1,2] (fun k => [(25,iv (k.1 : Int))]) (fun k => [(3,some (flat cW k.2))]) (fun k => k.1 ≤ (a7 (wS ts pts[i.toNat]! [2])).length ∧ k.2 = oU ((a7 (wS ts pts[i.toNat]! [2])).take k.1) f ∧ k.2.length = 6) (fun k => (a7 (wS ts pts[i.toNat]! [2])).length - k.1) (0,f) ⟨by omega,rfl,hf⟩ ?_
 rintro ⟨k,u⟩ ⟨hk,hu,hul⟩
 dsimp only at hk hu hul ⊢
 have hbb : k < (a7 (wS ts pts[i.toNat]! [2])).length → 0 ≤ (a7 (wS ts pts[i.toNat]! [2]))[k]! ∧ (a7 (wS ts pts[i.toNat]! [2]))[k]! < ts.length := fun h => nF (xX (fun v => decide (aV ts pts[i.toNat]! v ∈ [2])) ts.length) h
 have husm : ∀ z : Nat,Sm u[z]! := by intro z;rw [hu]; exact PD hs z
 have hset : ∀ (k a : Nat) [Sm a] (z : Nat),Sm (u.set k a)[z]! := fun k a h z => Ew husm h z
 have hset2 : ∀ (k a k2 a2 : Nat) [Sm a] [Sm a2] (z : Nat),Sm ((u.set k a).set k2 a2)[z]! := fun k a k2 a2 h h2 z => Ew (Ew husm h) h2 z
 by_cases hkn : k < (a7 (wS ts pts[i.toNat]! [2])).length
 ·have hbk := hbb hkn
  repeat' (first|refine aE ?_|(refine aK ?_ ?_ <;> intro hc hq <;> try (exfalso;omega))|fail)
  (refine bB (k + 1,u.set ((a7 (wS ts pts[i.toNat]! [2]))[k]!).toNat 0) (Le.renA [(0,0),(1,1),(2,2),(3,3)]) ?_ ?_)
  ·dsimp only
   exact ⟨by omega,by rw [Gt hkn,← hu],by simpa using hul⟩
  ·dsimp only;omega
 ·have hu' : u = oU (a7 (wS ts pts[i.toNat]! [2])) f := by rw [hu, List.take_of_length_le (by omega)]
  cases hln : b9 pts[i.toNat]!
  ·repeat' (first | (apply aF; (first | (apply aA (k := 138);rfl;(apply zX);exact Pur.pf;rfl) | (apply aA (k := 139);rfl;(apply mN);exact Pur.pf;rfl))) | refine aE ?_ | (refine aK ?_ ?_ <;> intro hc hq <;> try (exfalso; omega)) | refine bH ?_|fail)
   all_goals (refine aC (oN (z := 6) rfl rfl (by first|exact hul|(simp only [List.length_set]; exact hul)) (by decide)) ⟨?_,(by (exact bD _ _))⟩)
   all_goals simp only [aM,AB,← hu',hln,Bool.false_eq_true,false_and,false_or,if_false]
   all_goals congr 2
   all_goals grind
  ·have hop := pI hln
   repeat' (first|(apply aF;first|(apply kK;rfl;rfl;infer_instance;omega;rfl;(case' kk => intro hsm))|(first|(apply aA (k := 138);rfl;(apply zX);exact Pur.pf;rfl)|(apply aA (k := 139);rfl;(apply mN);exact Pur.pf;rfl)|(apply aA (k := 140);rfl;(apply CL);(rfl);rfl)))|refine aE ?_|(refine aK ?_ ?_ <;> intro hc hq <;> try (exfalso;omega))|(refine bK ?_ ?_ <;> intro hg hq <;> try (exfalso;omega))|refine bH ?_|fail)
   all_goals (refine aC (oN (z := 6) rfl rfl (by first|exact hul|(simp only [List.length_set]; exact hul)) (by decide)) ⟨?_,(by (exact bD _ _))⟩)
   all_goals simp only [aM,AB,← hu',hln,true_and,if_true]
   all_goals congr 2
   all_goals grind
theorem yK (ts:List Int) (bd:List AL.Stmt) (pts:List Pnt) (A:List Nat) (w:WG ts pts) (hA:sQ ts pts A):PC Tryz.prog 49 [aG ts bd pts] (fun r => r = .imm pts.length (flat cW A)):=by
 have hpl := w.pl
 have hp0 := w.p0
 have htl := w.tl
 refine aB Tryz.func49 Tryz.ntmps49 ?_
 repeat' (first|refine aE ?_|fail)
 refine aH (σ := List Nat × Bool) [0,3] [] (fun s => [(4,bv s.2)]) (fun s => [(0,some (flat cW s.1))]) (fun s => SF ts pts s.1 ∧ (s.2 = false → A4 ts pts s.1)) (fun s => 2 * fH (s.1.map (fun x => 2 ^ pts.length - x)) + s.2.toNat) (List.replicate (pts.length * 6) 0,true) ⟨OH,fun h => by cases h⟩ ?_
 rintro ⟨s,b⟩ ⟨hS,hC⟩
 dsimp only at hS hC ⊢
 repeat' (first|refine aE ?_|(refine aK ?_ ?_ <;> intro hc hq <;> try (exfalso;omega))|fail)
 ·refine aH (σ := Nat × (List Nat × Bool)) [0, 3, 22, 23] [] (fun k => [(24, iv (k.1 : Int)), (4, bv k.2.2)]) (fun k => [(0, some (flat cW k.2.1))]) (fun k => k.1 ≤ pts.length ∧ k.2 = (List.range k.1).foldl (D7 ts pts) (s, false) ∧ SF ts pts k.2.1) (fun k => pts.length - k.1) (0, (s, false)) ⟨by omega, rfl, hS⟩ ?_
  rintro ⟨i,u,c⟩ ⟨hk,hf,hS2⟩
  dsimp only at hk hf hS2 ⊢
  have hul := hS2.1
  have hsm : ∀ z : Nat,Sm u[z]! := Oc w hS2
  by_cases hin : i < pts.length
  ·have hnl := w.nl i hin
   have hrl : ((u.drop (i * 6)).take 6).length = 6 := gE hul hin
   have hrs : ∀ z : Nat, Sm ((u.drop (i * 6)).take 6)[z]! := by
    intro z
    by_cases hz : z < 6
    ·have := fM hul hin hz;unfold dG at this;rw [this]; exact hsm _
    ·rw [getElem!_neg _ z (by rw [hrl]; exact hz)]; exact ⟨by decide⟩
   have hcl : (AB ts pts (i : Int).toNat ((u.drop (i * 6)).take 6)).length = 6 := (NA ts pts i ((u.drop (i * 6)).take 6)).trans hrl
   repeat' (first|(apply aF;(apply aA (k := 86);rfl;(apply D9 <;> (first|assumption|omega));exact Pur.pf;rfl))|refine aE ?_|(refine aK ?_ ?_ <;> intro hc hq <;> try (exfalso;omega))|fail)
   generalize hcf : AB ts pts (i : Int).toNat ((u.drop (i * 6)).take 6) = a at hcl
   have hcf' : AB ts pts i (dG u i) = a := hcf
   have hasnd : ∀ k,cO pts i k → ∀ v,v < 6 → Rg ts pts k v a[v]! := fun k e v hv => by rw [← hcf']; exact EK w hS2 e hv
   refine aH (σ := Nat × (List Nat × Bool)) [0,3,7,22,23,24,37,38] [2] (fun j => [(39,iv (j.1 : Int)),(4,bv j.2.2)]) (fun j => [(0,some (flat cW j.2.1))]) (fun j => j.1 ≤ pts[i]!.next.length ∧ j.2 = ((wQ pts i).take j.1).foldl (w8 a) (u,c) ∧ SF ts pts j.2.1) (fun j => pts[i]!.next.length - j.1) (0,(u,c)) ⟨by omega,rfl,hS2⟩ ?_
   rintro ⟨j,u2,c2⟩ ⟨hj,hf2,hS3⟩
   dsimp only at hj hf2 hS3 ⊢
   have hul2 := hS3.1
   by_cases hjn : j < pts[i]!.next.length
   ·have hzz : 0 ≤ pts[i]!.next[j]! ∧ pts[i]!.next[j]! < pts.length := w.nx i hin _ (aS _ _ hjn)
    have hed : cO pts i (pts[i]!.next[j]!).toNat := ⟨hin,by rw [Int.toNat_of_nonneg hzz.1]; exact aS _ _ hjn⟩
    have hap := hasnd _ hed
    have hasm : ∀ z : Nat, Sm a[z]! := by
     intro z
     by_cases hz : z < 6
     ·exact ⟨Nat.lt_of_lt_of_le (hap z hz).1 (Nat.pow_le_pow_right (by decide) (by omega))⟩
     ·rw [getElem!_neg a z (by rw [hcl]; exact hz)]; exact ⟨by decide⟩
    repeat' (first|refine aE ?_|(refine aK ?_ ?_ <;> intro hc hq <;> try (exfalso;omega))|fail)
    refine aH (σ := Nat × (List Nat × Bool)) [0,3,7,9,22,23,24,37,38,39,43] [2] (fun v => [(44,iv (v.1 : Int)),(4,bv v.2.2)]) (fun v => [(0,some (flat cW v.2.1))]) (fun v => v.1 ≤ 6 ∧ v.2 = (List.range v.1).foldl (qW a (pts[i]!.next[j]!).toNat) (u2,c2) ∧ SF ts pts v.2.1) (fun v => 6 - v.1) (0,(u2,c2)) ⟨by omega,rfl,hS3⟩ ?_
    rintro ⟨v,u3,c3⟩ ⟨hv,hf3,hS4⟩
    dsimp only at hv hf3 hS4 ⊢
    have hul3 := hS4.1
    have hsm3 : ∀ z : Nat,Sm u3[z]! := Oc w hS4
    by_cases hvn : v < 6
    ·have hlaw := CB (cZ w hed) hap u3 c3 v hvn hS4
     repeat' (first|refine aE ?_|(refine aK ?_ ?_ <;> intro hc hq <;> try (exfalso;omega))|refine bH ?_|fail)
     ·have hne : oW u3[(pts[i]!.next[j]!).toNat * 6 + v]! a[v]! ≠ u3[(pts[i]!.next[j]!).toNat * 6 + v]! := fun h => hq (congrArg Int.ofNat h)
      have e1 : qW a (pts[i]!.next[j]!).toNat (u3,c3) v = (u3.set ((pts[i]!.next[j]!).toNat * 6 + v) (oW u3[(pts[i]!.next[j]!).toNat * 6 + v]! a[v]!),true) := Az hne
      rw [e1] at hlaw
      (refine bB (v + 1,(_,true)) (Le.renA [(0,0),(2,2)]) ?_ ?_)
      ·dsimp only
       refine ⟨by omega,?_,hlaw.1⟩
       rw [yM,← hf3,e1]; rfl
      ·dsimp only;omega
     ·have hne : oW u3[(pts[i]!.next[j]!).toNat * 6 + v]! a[v]! = u3[(pts[i]!.next[j]!).toNat * 6 + v]! := Int.ofNat.inj hq
      have e1 : qW a (pts[i]!.next[j]!).toNat (u3,c3) v = (u3,c3) := A2 hne
      (refine bB (v + 1,(u3,c3)) (Le.renA [(0,0),(2,2)]) ?_ ?_)
      ·dsimp only
       refine ⟨by omega,?_,hS4⟩
       rw [yM,← hf3,e1]
      ·dsimp only;omega
    ·have hv6 : v = 6 := by omega
     subst hv6
     repeat' (first|refine aE ?_|fail)
     (refine bB (j + 1,(u3,c3)) (Le.renA [(0,0),(2,2)]) ?_ ?_)
     ·dsimp only
      refine ⟨by omega,?_,hS4⟩
      rw [G8 hjn,← hf2,hf3]; rfl
     ·dsimp only;omega
   ·repeat' (first | refine aE ?_ | (refine aK ?_ ?_ <;> intro hc hq <;> try (exfalso; omega))|fail)
    (refine bB (i + 1,(u2,c2)) (Le.renA [(0,0)]) ?_ ?_)
    ·dsimp only
     refine ⟨by omega,?_,hS3⟩
     rw [dW,← hf,hf2,List.take_of_length_le (by rw [l5]; omega),← hcf']; rfl
    ·dsimp only;omega
  ·repeat' (first | refine aE ?_ | (refine aK ?_ ?_ <;> intro hc hq <;> try (exfalso; omega))|fail)
   have law := Il w s false hS
   have hfull : (u, c) = Jb ts pts (s, false) := by
    rw [hf,show i = pts.length by omega]; rfl
   rw [← hfull] at law
   (refine bB (u,c) (Le.renA [(0,0)]) ?_ ?_)
   ·dsimp only
    refine ⟨hS2,fun h => ?_⟩
    rcases law.2 with ⟨e1,e2⟩ | ⟨e1,_⟩
    ·cases e1;exact e2
    ·dsimp only at e1;rw [h] at e1;cases e1
   ·dsimp only
    have hb : b = true := by assumption
    subst hb
    rcases law.2 with ⟨e1,e2⟩ | ⟨e1,e2⟩
    ·cases e1;simp
    ·dsimp only at e1 e2;subst e1;omega
 ·have hb : b = false := by assumption
  refine aO (Le.frzD (d := 2) (i := 0) rfl rfl) ?_
  refine aC rfl ⟨?_,(by (exact bD _ _))⟩
  simp only [aM]
  rw [GX hA (K3 w hS (hC hb))]
theorem Qt (ts:List Int) (bd:List AL.Stmt) (pts:List Pnt) (i:Int) (lv:Nat) (f:List Nat) (w:WG ts pts) (hi:0 ≤ i ∧ i < pts.length) (hlv:lv < 2 ^ ts.length) (hf:f.length = 6) (hs:∀ z:Nat,Sm f[z]!):PC Tryz.prog 91 [aG ts bd pts,iv i,iv (lv:Int),.agg (flat cW f)] (fun r => r = .v (.int .u64 (Be ts pts[i.toNat]! lv f:Nat))):=by
 have hpl := w.pl
 have htl := w.tl
 have hin : i.toNat < pts.length := by omega
 have hst := (w.set i.toNat hin)
 have hsl : Sm lv := ⟨Nat.lt_of_lt_of_le hlv (Nat.pow_le_pow_right (by decide) (by omega))⟩
 have hT : Sm (wS ts pts[i.toNat]! [2]) := b0 (by omega)
 have hB : Sm (jD pts[i.toNat]!) := tQ (by omega)
 have hbl := cK (oJ lv (wS ts pts[i.toNat]! [2] ||| jD pts[i.toNat]!))
 have hlt : oJ lv (wS ts pts[i.toNat]! [2] ||| jD pts[i.toNat]!) < 2 ^ ts.length := Nat.xor_lt_two_pow hlv (Nat.lt_of_le_of_lt Nat.and_le_left hlv)
 refine aB Tryz.func91 Tryz.ntmps91 ?_
 repeat' (first|(apply aF;(first|(apply aA (k := 21);rfl;(apply fR <;> (infer_instance));(rfl);rfl)|(apply aA (k := 97);rfl;(apply tO <;> (assumption));exact Pur.pf;rfl)|(apply aA (k := 98);rfl;(apply p8 <;> (omega));exact Pur.pf;rfl)))|refine aE ?_|refine bH ?_|fail)
 refine aH (σ := Nat × Nat) [7,28,29] [0] (fun k => [(30,iv (k.1 : Int)),(10,.v (.int .u64 (k.2 : Int)))]) (fun k => []) (fun k => k.1 ≤ (a7 (oJ lv (wS ts pts[i.toNat]! [2] ||| jD pts[i.toNat]!))).length ∧ k.2 = Qy f ((a7 (oJ lv (wS ts pts[i.toNat]! [2] ||| jD pts[i.toNat]!))).take k.1) 0 ∧ Sm k.2) (fun k => (a7 (oJ lv (wS ts pts[i.toNat]! [2] ||| jD pts[i.toNat]!))).length - k.1) (0,0) ⟨by omega,rfl,inferInstance⟩ ?_
 rintro ⟨k,a⟩ ⟨hk,ha,hsa⟩
 dsimp only at hk ha hsa ⊢
 have hbb : k < (a7 (oJ lv (wS ts pts[i.toNat]! [2] ||| jD pts[i.toNat]!))).length → 0 ≤ (a7 (oJ lv (wS ts pts[i.toNat]! [2] ||| jD pts[i.toNat]!)))[k]! ∧ (a7 (oJ lv (wS ts pts[i.toNat]! [2] ||| jD pts[i.toNat]!)))[k]! < ts.length := fun h => nF hlt h
 repeat' (first|refine aE ?_|(refine aK ?_ ?_ <;> intro hc hq <;> try (exfalso;omega))|fail)
 ·(refine bB (k + 1, _) (Le.renA [(0, 0)]) ?_ ?_)
  ·dsimp only
   refine ⟨by omega,?_,inferInstance⟩
   rw [ha]; unfold Qy;rw [dR _ _ _ _ (by omega)]
  ·dsimp only;omega
 ·refine aC rfl ⟨?_, rfl⟩
  simp only [aM]
  rw [ha,List.take_of_length_le (by omega)]; rfl
theorem DB (ts:List Int) (bd:List AL.Stmt) (pts:List Pnt) (x:Pnt) (mb:Nat) (htl:ts.length ≤ 6) (hmb:Sm mb) (hst:aQ x < ts.length) (hy:0 ≤ x.y ∧ (3 ≤ x.op → x.op ≤ 7 → x.y < ts.length)):PC Tryz.prog 142 [aG ts bd pts,dJ x,iv (mb:Int)] (fun r => r = sl F4 (kC ts x (mb.testBit (aQ x).toNat))):=by
 refine aB Tryz.func142 Tryz.ntmps142 ?_
 repeat' (first|(apply aF;first|(apply l6 (d := 7) (e := 2);rfl;rfl)|(first|(apply aA (k := 138);rfl;(apply zX);exact Pur.pf;rfl)|(apply aA (k := 116);rfl;(apply Aw <;> (omega));exact Pur.pf;rfl)))|refine aE ?_|(refine aK ?_ ?_ <;> intro hc hq <;> try (exfalso;omega))|(refine bK ?_ ?_ <;> intro hg hq <;> try (exfalso;omega))|fail)
 all_goals first|refine aO (Le.frzD (d := 6) (i := 1) rfl rfl) ?_|refine aO (Le.frzD (d := 6) (i := 3) rfl rfl) ?_|refine aO (Le.frzD (d := 6) (i := 5) rfl rfl) ?_
 all_goals refine aC rfl ⟨?_,(by (rfl))⟩
 all_goals simp only [aM,kC]
 all_goals have h1 := mP mb (aQ x).toNat
 all_goals (try (rw [if_neg (show ¬ (0 ≤ aQ x ∧ ts[(aQ x).toNat]! = 2 ∧ mb.testBit (aQ x).toNat = true) from fun h => by omega)]))
 all_goals (simp_all <;> rfl)
theorem Gl (ts:List Int) (bd:List AL.Stmt) (pts:List Pnt) (i:Int) (mb loans:Nat) (w:WG ts pts) (hi:0 ≤ i ∧ i < pts.length) (hmb:Sm mb) (hlo:loans < 2 ^ pts.length):PC Tryz.prog 90 [aG ts bd pts,iv i,iv (mb:Int),.v (.int .u64 (loans:Int))] (fun r => r = .v (.int .u64 (Ll pts loans (kC ts pts[i.toNat]! (mb.testBit (aQ pts[i.toNat]!).toNat)) 0:Nat))):=by
 have hpl := w.pl
 have htl := w.tl
 have hin : i.toNat < pts.length := by omega
 have hst := (w.set i.toNat hin).1
 have hy := w.y i.toNat hin
 have hx := w.x i.toNat hin
 have hop := w.op i.toNat hin
 have hlsm : Sm loans := ⟨Nat.lt_of_lt_of_le hlo (Nat.pow_le_pow_right (by decide) (by omega))⟩
 have hacc := EF (mb.testBit (aQ pts[i.toNat]!).toNat) w hin
 have hal := Bh ts pts[i.toNat]! (mb.testBit (aQ pts[i.toNat]!).toNat)
 refine aB Tryz.func90 Tryz.ntmps90 ?_
 repeat' (first|(apply aF;(apply aA (k := 142);rfl;(apply DB <;> (assumption));exact Pur.pf;rfl))|refine aE ?_|fail)
 generalize kC ts pts[i.toNat]! (mb.testBit (aQ pts[i.toNat]!).toNat) = acs at hacc hal
 refine aH (σ := Nat × Nat) [0,3,23,24] [] (fun k => [(25,iv (k.1 : Int)),(9,.v (.int .u64 (k.2 : Int)))]) (fun k => []) (fun k => k.1 ≤ acs.length ∧ k.2 = Ll pts loans (acs.take k.1) 0 ∧ k.2 < 2 ^ pts.length) (fun k => acs.length - k.1) (0,0) ⟨by omega,rfl,Nat.pow_pos (by decide)⟩ ?_
 rintro ⟨k,a⟩ ⟨hk,ha,hab⟩
 dsimp only at hk ha hab ⊢
 by_cases hkn : k < acs.length
 ·have hcv := hacc _ (aS acs k hkn)
  have hof : ∀ V,Sm (sY pts V) := fun V => IN w V
  have hll := cK (loans &&& sY pts (2 ^ (acs[k]!.var).toNat))
  have hlb : loans &&& sY pts (2 ^ (acs[k]!.var).toNat) < 2 ^ pts.length := Nat.lt_of_le_of_lt Nat.and_le_left hlo
  have htk := dR (fun a c => LP pts c.write (a7 (loans &&& sY pts (2 ^ c.var.toNat))) a) acs 0 k hkn
  repeat' (first|(apply aF;first|(apply kK;rfl;rfl;infer_instance;omega;rfl;(case' kk => intro hsm))|(first|(apply aA (k := 89);rfl;(apply uK <;> (infer_instance));(rfl);rfl)|(apply aA (k := 141);rfl;(apply Bv <;> (assumption));exact Pur.pf;rfl)))|refine aE ?_|(refine aK ?_ ?_ <;> intro hc hq <;> try (exfalso;omega))|fail)
  refine aH (σ := Nat × Nat) [0,3,11,23,24,25,36,37] [0] (fun j => [(38,iv (j.1 : Int)),(9,.v (.int .u64 (j.2 : Int)))]) (fun j => []) (fun j => j.1 ≤ (a7 (loans &&& sY pts (2 ^ (acs[k]!.var).toNat))).length ∧ j.2 = LP pts acs[k]!.write ((a7 (loans &&& sY pts (2 ^ (acs[k]!.var).toNat))).take j.1) a ∧ j.2 < 2 ^ pts.length) (fun j => (a7 (loans &&& sY pts (2 ^ (acs[k]!.var).toNat))).length - j.1) (0,a) ⟨by omega,rfl,hab⟩ ?_
  rintro ⟨j,b⟩ ⟨hj,hb,hbb⟩
  dsimp only at hj hb hbb ⊢
  have hbsm : Sm b := ⟨Nat.lt_of_lt_of_le hbb (Nat.pow_le_pow_right (by decide) (by omega))⟩
  by_cases hjn : j < (a7 (loans &&& sY pts (2 ^ (acs[k]!.var).toNat))).length
  ·have hlz := nF hlb hjn
   have hstep : LP pts acs[k]!.write ((a7 (loans &&& sY pts (2 ^ (acs[k]!.var).toNat))).take (j + 1)) a = if acs[k]!.write = true ∨ pts[((a7 (loans &&& sY pts (2 ^ (acs[k]!.var).toNat)))[j]!).toNat]!.op = 5 then b ||| 2 ^ ((a7 (loans &&& sY pts (2 ^ (acs[k]!.var).toNat)))[j]!).toNat else b := by
    rw [hb]; unfold LP;rw [dR _ _ _ _ hjn]
   have hb2 : b ||| 2 ^ ((a7 (loans &&& sY pts (2 ^ (acs[k]!.var).toNat)))[j]!).toNat < 2 ^ pts.length := Nat.or_lt_two_pow hbb (Nat.pow_lt_pow_right (by decide) (by omega))
   repeat' (first|(apply aF;(apply kK;rfl;rfl;infer_instance;omega;rfl;(case' kk => intro hsm)))|refine aE ?_|(refine aK ?_ ?_ <;> intro hc hq <;> try (exfalso;omega))|(refine bK ?_ ?_ <;> intro hg hq <;> try (exfalso;omega))|fail)
   all_goals first
    | ((refine bB (j + 1, b ||| 2 ^ ((a7 (loans &&& sY pts (2 ^ (acs[k]!.var).toNat)))[j]!).toNat) (Le.renA [(0, 0)]) ?_ ?_)
       ·dsimp only
        refine ⟨by omega,?_,hb2⟩
        rw [hstep,if_pos (by first|exact .inl (by assumption)|exact .inr (by assumption))]
       ·dsimp only;omega)
    | ((refine bB (j + 1, b) (Le.renA [(0, 0)]) ?_ ?_)
       ·dsimp only
        refine ⟨by omega,?_,hbb⟩
        rw [hstep,if_neg (fun h => h.elim (fun h1 => Bool.noConfusion (h1.symm.trans (by assumption : acs[k]!.write = false))) (fun h2 => absurd h2 (by assumption)))]
       ·dsimp only;omega)
  ·repeat' (first | refine aE ?_ | (refine aK ?_ ?_ <;> intro hc hq <;> try (exfalso; omega))|fail)
   (refine bB (k + 1,b) (Le.renA []) ?_ ?_)
   ·dsimp only
    refine ⟨by omega,?_,hbb⟩
    rw [hb,List.take_of_length_le (by omega),ha]; unfold Ll;rw [htk]
   ·dsimp only;omega
 ·repeat' (first | refine aE ?_ | (refine aK ?_ ?_ <;> intro hc hq <;> try (exfalso; omega))|fail)
  refine aC rfl ⟨?_,rfl⟩
  simp only [aM]
  rw [ha,List.take_of_length_le (by omega)]
end Go.Proofs.YteidfaaldcedpaaGreatDoor
