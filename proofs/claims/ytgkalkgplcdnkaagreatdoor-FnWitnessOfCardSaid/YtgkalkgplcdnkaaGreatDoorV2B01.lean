/-
 A part of the proofs over this program: rules and contracts of its functions (the contracts).
-/
import Derived.Test.YtgkalkgplcdnkaaGreatDoorV2A07
import Derived.Test.YtgkalkgplcdnkaaGreatDoorRows
set_option linter.unusedVariables false
set_option linter.unusedSimpArgs false
set_option maxHeartbeats 8000000
set_option maxRecDepth 4000
attribute [local irreducible] Go.AL.RW Go.AL.AW Go.AL.Stop
namespace Go.Proofs.YtgkalkgplcdnkaaGreatDoor
open Go.AL
theorem nD (a b c:Int):PC Tryz.prog 59 [iv a,iv b,iv c] (fun r => r = bv (decide (b ≤ a) && decide (a ≤ c))):=by
 refine aC Tryz.func59 Tryz.ntmps59 ?_
 repeat' (first|refine aD ?_|(refine bR ?_ ?_ <;> intro hg hq <;> try (exfalso;omega))|refine cC ?_|fail)
 all_goals (refine ⟨?_,rfl⟩; simp only [aO,AV.v.injEq,Value.bool.injEq,Value.int.injEq,true_and])
 all_goals grind
theorem w4 (t:Int):PC Tryz.prog 129 [iv t] (fun r => r = bv (iH t)):=by
 refine aC Tryz.func129 Tryz.ntmps129 ?_
 repeat' (first|refine aD ?_|(refine bR ?_ ?_ <;> intro hg hq <;> try (exfalso;omega))|refine cC ?_|fail)
 all_goals (refine ⟨?_,rfl⟩; simp only [aO,AV.v.injEq,Value.bool.injEq,Value.int.injEq,true_and])
 all_goals grind [iH]
theorem F6 (t:Int):PC Tryz.prog 140 [iv t] (fun r => r = bv (iH t)):=by
 refine aC Tryz.func140 Tryz.ntmps140 ?_
 repeat' (first|refine aD ?_|(refine bR ?_ ?_ <;> intro hg hq <;> try (exfalso;omega))|refine cC ?_|fail)
 all_goals (refine ⟨?_,rfl⟩; simp only [aO,AV.v.injEq,Value.bool.injEq,Value.int.injEq,true_and])
 all_goals grind [iH]
theorem AO (t:Int):PC Tryz.prog 156 [iv t] (fun r => r = bv (decide (t = 2) || iH t)):=by
 refine aC Tryz.func156 Tryz.ntmps156 ?_
 repeat' (first|(apply aF;(apply aA (k := 129);rfl;(apply w4);(rfl);rfl))|refine aD ?_|(refine bR ?_ ?_ <;> intro hg hq <;> try (exfalso;omega))|refine cC ?_|fail)
 all_goals (refine ⟨?_,rfl⟩; simp only [aO,AV.v.injEq,Value.bool.injEq,Value.int.injEq,true_and])
 all_goals grind
theorem A9 (t:Int):PC Tryz.prog 143 [iv t] (fun r => r = bv (decide (t = 9) || decide (t = 10))):=by
 refine aC Tryz.func143 Tryz.ntmps143 ?_
 repeat' (first|refine aD ?_|(refine bR ?_ ?_ <;> intro hg hq <;> try (exfalso;omega))|refine cC ?_|fail)
 all_goals (refine ⟨?_,rfl⟩; simp only [aO,AV.v.injEq,Value.bool.injEq,Value.int.injEq,true_and])
 all_goals grind
theorem Gd (ts:List Int) (v:Int):PC Tryz.prog 154 [sl cI ts,iv v] (fun r => r = iv (gW ts v)):=by
 refine aC Tryz.func154 Tryz.ntmps154 ?_
 repeat' (first|refine aD ?_|(refine aK ?_ ?_ <;> intro hc hq <;> try (exfalso;omega))|(refine bR ?_ ?_ <;> intro hg hq <;> try (exfalso;omega))|refine cC ?_|fail)
 all_goals (refine ⟨?_,rfl⟩; simp only [aO,AV.v.injEq,Value.bool.injEq,Value.int.injEq,true_and])
 all_goals grind [gW]
theorem El (ts:List Int) (v:Int) (hl:ts.length ≤ 1048576):PC Tryz.prog 155 [sl cI ts,iv v] (fun r => r = iv (gW ts v)):=by
 refine aC Tryz.func155 Tryz.ntmps155 ?_
 repeat' (first|(apply aF;(apply aA (k := 59);rfl;(apply nD);(rfl);rfl))|refine aD ?_|(refine aK ?_ ?_ <;> intro hc hq <;> try (exfalso;omega))|refine cC ?_|fail)
 all_goals (refine ⟨?_,rfl⟩; simp only [aO,AV.v.injEq,Value.bool.injEq,Value.int.injEq,true_and])
 all_goals grind [gW]
theorem AJ (ts:List Int) (s:AL.Stmt) (hl:bC ts = true):PC Tryz.prog 144 [sl cI ts,dB s] (fun r => r = bv (s.th.isEmpty && s.el.isEmpty && dF ts s)):=by
 have hl2 := fW hl
 have hx := gO hl s.x
 have hy := gO hl s.y
 refine aC Tryz.func144 Tryz.ntmps144 ?_
 repeat' (first|(apply aF;(first|(apply aA (k := 59);rfl;(apply nD);(rfl);rfl)|(apply aA (k := 155);rfl;(apply El <;> (omega));exact Pur.pf;rfl)|(apply aA (k := 156);rfl;(apply AO);(rfl);rfl)))|refine aD ?_|(refine aK ?_ ?_ <;> intro hc hq <;> try (exfalso;omega))|(refine bR ?_ ?_ <;> intro hg hq <;> try (exfalso;omega))|refine bT ?_|refine cC ?_|fail)
 all_goals (refine ⟨?_,rfl⟩; simp only [aO,AV.v.injEq,Value.bool.injEq,Value.int.injEq,true_and])
 all_goals (cases hth : s.th <;> cases hel : s.el <;> simp only [hth,hel,List.length_nil,List.length_cons,List.isEmpty_nil,List.isEmpty_cons,Bool.true_and,Bool.false_and] at *)
 all_goals (try unfold dF)
 all_goals (try simp only [iH,Bool.or_eq_true,Bool.or_eq_false_iff,decide_eq_true_eq,decide_eq_false_iff_not] at *)
 all_goals grind
theorem AP (ts:List Int) (s:AL.Stmt) (hl:bC ts = true):PC Tryz.prog 142 [sl cI ts,dB s] (fun r => r = bv (dF ts s)):=by
 have hl2 := fW hl
 have hx := gO hl s.x
 have hy := gO hl s.y
 refine aC Tryz.func142 Tryz.ntmps142 ?_
 repeat' (first|(apply aF;(apply aA (k := 154);rfl;(apply Gd);exact Pur.pf;rfl))|refine aD ?_|(refine aK ?_ ?_ <;> intro hc hq <;> try (exfalso;omega))|(refine bR ?_ ?_ <;> intro hg hq <;> try (exfalso;omega))|refine cC ?_|fail)
 all_goals (refine ⟨?_,rfl⟩; simp only [aO,AV.v.injEq,Value.bool.injEq,Value.int.injEq,true_and])
 all_goals (try unfold dF)
 all_goals grind
theorem CD (ts:List Int) (hl:bC ts = true) (m:Nat) (ih:∀ l (d:Int),aN l < m → 0 ≤ d → d ≤ 1000 → PC Tryz.prog 87 [sl cI ts,sl aJ l,iv d] (fun r => r = bv (okL ts d.toNat l))) (s:AL.Stmt) (d:Int) (hs:bV s ≤ m) (hd0:0 ≤ d) (hd:d ≤ 1000) :
  PC Tryz.prog 120 [sl cI ts,dB s,iv d] (fun r => r = bv (rF ts d.toNat s)) := by
 rw [Hz ts d hd0]
 refine aC Tryz.func120 Tryz.ntmps120 ?_
 repeat' (first|(apply aF;(first|(apply aA (k := 87);rfl;(apply ih <;> (first|omega|(have := jT s;omega)));exact Pur.pf;rfl)|(apply aA (k := 142);rfl;(apply AP <;> (assumption));exact Pur.pf;rfl)))|refine aD ?_|(refine aK ?_ ?_ <;> intro hc hq <;> try (exfalso;omega))|(refine bR ?_ ?_ <;> intro hg hq <;> try (exfalso;omega))|refine cC ?_|fail)
 all_goals (refine ⟨?_,rfl⟩; simp only [aO,AV.v.injEq,Value.bool.injEq,Value.int.injEq,true_and])
 all_goals (cases hth : s.th <;> cases hel : s.el <;> simp only [hth,hel,List.length_nil,List.length_cons,List.isEmpty_nil,List.isEmpty_cons,Bool.true_and,Bool.false_and] at *)
 all_goals grind
theorem C2 (ts:List Int) (hl:bC ts = true) (m:Nat) (ih:∀ s (d:Int),bV s ≤ m → 0 ≤ d → d ≤ 1000 → PC Tryz.prog 120 [sl cI ts,dB s,iv d] (fun r => r = bv (rF ts d.toNat s))) (l:List AL.Stmt) (d:Int) (hs:aN l ≤ m) (hm:m ≤ 100000000) (hd0:0 ≤ d) (hd:d ≤ 1000) :
  PC Tryz.prog 87 [sl cI ts,sl aJ l,iv d] (fun r => r = bv (okL ts d.toNat l)) := by
 have hlen := cZ l
 refine aC Tryz.func87 Tryz.ntmps87 ?_
 repeat' (first|refine aD ?_|fail)
 refine aI (σ := Nat) [0,1,2] [] (fun k => [(7,iv (k : Int))]) (fun k => []) (fun k => k ≤ l.length ∧ ∀ i,i < k → rF ts d.toNat l[i]! = true) (fun k => l.length - k) (0) ⟨by omega,by omega⟩ ?_
 intro k ⟨hk,hall⟩
 have hck := fA l k
 repeat' (first|(apply aF;(apply aA (k := 120);rfl;(apply ih _ d (Nat.le_trans (hck (by omega)) hs) hd0 hd);exact Pur.pf;rfl))|refine aD ?_|(refine aK ?_ ?_ <;> intro hc hq <;> try (exfalso;omega))|refine cC ?_|fail)
 ·(refine ⟨?_, rfl⟩; simp only [aO, AV.v.injEq, Value.bool.injEq, Value.int.injEq, true_and])
  rw [Ey (k := k) (by omega) hq]
 ·(refine aY (k + 1) (Le.renA []) ?_ ?_)
  ·grind
  ·omega
 ·(refine ⟨?_, rfl⟩; simp only [aO, AV.v.injEq, Value.bool.injEq, Value.int.injEq, true_and])
  rw [HO (fun i hi => hall i (by omega))]
theorem Hb (ts:List Int) (hl:bC ts = true):∀ (m:Nat),m ≤ 100000000 → (∀ s (d:Int),bV s ≤ m → 0 ≤ d → d ≤ 1000 → PC Tryz.prog 120 [sl cI ts,dB s,iv d] (fun r => r = bv (rF ts d.toNat s))) ∧
  (∀ l (d : Int),aN l ≤ m → 0 ≤ d → d ≤ 1000 → PC Tryz.prog 87 [sl cI ts,sl aJ l,iv d] (fun r => r = bv (okL ts d.toNat l))) := by
 intro m
 induction m using Nat.strongRecOn with
 | ind m ih =>
  intro hm
  have h1 : ∀ s (d : Int), bV s ≤ m → 0 ≤ d → d ≤ 1000 → PC Tryz.prog 120 [sl cI ts, dB s, iv d] (fun r => r = bv (rF ts d.toNat s)) :=
   fun s d h1 h2 h3 => CD ts hl m (fun l d' g1 g2 g3 => (ih (aN l) g1 (by omega)).2 l d' (Nat.le_refl _) g2 g3) s d h1 h2 h3
  exact ⟨h1,fun l d g1 g2 g3 => C2 ts hl m h1 l d g1 hm g2 g3⟩
theorem zW (m0:Nat) (ih:∀ l (most:Int),aN l < m0 → -1 ≤ most → most ≤ 1000 → PC Tryz.prog 88 [sl aJ l,iv most] (fun r => r = iv (lN most 0 l))) (l:List AL.Stmt) (most:Int) (hs:aN l ≤ m0) (hm:m0 ≤ 100000000) (hd0:-1 ≤ most) (hd:most ≤ 1000) :
  PC Tryz.prog 88 [sl aJ l,iv most] (fun r => r = iv (lN most 0 l)) := by
 have hlen := cZ l
 have hall := kM l most 0
 refine aC Tryz.func88 Tryz.ntmps88 ?_
 repeat' (first|refine aD ?_|fail)
 refine aI (σ := Nat × Int) [0,1] [] (fun k => [(6,iv (k.1 : Int)),(5,iv k.2)]) (fun k => []) (fun k => k.1 ≤ l.length ∧ lN most k.2 (l.drop k.1) = lN most 0 l ∧ 0 ≤ k.2 ∧ k.2 ≤ aN l) (fun k => l.length - k.1) (0,0) ⟨by omega,rfl,by omega,by omega⟩ ?_
 rintro ⟨k,n⟩ ⟨hk,hn,hn0,hn1⟩
 dsimp only at hk hn hn0 hn1 ⊢
 have hck := fA l k
 have hct := jT l[k]!
 have b1 := kM l[k]!.th (most - n) 0
 have b2 := fun z => kM l[k]!.el z 0
 have b3 := E0 l[k]! most n
 have b4 := kM (l.drop (k + 1)) most (Et most n l[k]!)
 have b5 := FN most n l k
 rw [Ib] at b3 b4 b5
 repeat' (first|(apply aF;(apply aA (k := 88);rfl;(apply ih <;> omega);exact Pur.pf;rfl))|refine aD ?_|(refine aK ?_ ?_ <;> intro hc hq <;> try (exfalso;omega))|(refine bR ?_ ?_ <;> intro hg hq <;> try (exfalso;omega))|refine cC ?_|fail)
 ·(refine aY (k + 1, n + 1 + lN (most - n) 0 l[k]!.th + lN (most - (n + 1 + lN (most - n) 0 l[k]!.th)) 0 l[k]!.el) (Le.renA []) ?_ ?_)
  ·dsimp only;grind
  ·dsimp only;omega
 ·(refine aY (k + 1, n + 1 + lN (most - n) 0 l[k]!.th) (Le.renA []) ?_ ?_)
  ·dsimp only;grind
  ·dsimp only;omega
 ·(refine ⟨?_, rfl⟩; simp only [aO, AV.v.injEq, Value.bool.injEq, Value.int.injEq, true_and])
  rw [← hn,Gg _ _ _ (by omega)]
 ·(refine ⟨?_, rfl⟩; simp only [aO, AV.v.injEq, Value.bool.injEq, Value.int.injEq, true_and])
  rw [← hn,GW _ _ _ _ (by omega)]
theorem C6 (l:List AL.Stmt) (most:Int) (hs:aN l ≤ 100000000) (hd0:-1 ≤ most) (hd:most ≤ 1000) :
  PC Tryz.prog 88 [sl aJ l,iv most] (fun r => r = iv (lN most 0 l)) := by
 have h : ∀ (m : Nat), m ≤ 100000000 → ∀ l (most : Int), aN l ≤ m → -1 ≤ most → most ≤ 1000 → PC Tryz.prog 88 [sl aJ l, iv most] (fun r => r = iv (lN most 0 l)) := by
  intro m
  induction m using Nat.strongRecOn with
  | ind m ih =>
   intro hm l most h1 h2 h3
   exact zW m (fun l' most' g1 g2 g3 => ih _ g1 (by omega) l' most' (Nat.le_refl _) g2 g3) l most h1 hm h2 h3
 exact h _ hs l most (Nat.le_refl _) hd0 hd
theorem Ec (ts:List Int) (l:List AL.Stmt) (d:Int) (hl:bC ts = true) (hs:aN l ≤ 100000000) (hd0:0 ≤ d) (hd:d ≤ 1000):PC Tryz.prog 87 [sl cI ts,sl aJ l,iv d] (fun r => r = bv (okL ts d.toNat l)) :=
 (Hb ts hl _ hs).2 l d (Nat.le_refl _) hd0 hd
theorem tW (ts:List Int) (hl:ts.length ≤ 1048576):PC Tryz.prog 86 [sl cI ts] (fun r => r = bv (bC ts)):=by
 refine aC Tryz.func86 Tryz.ntmps86 ?_
 repeat' (first|refine aD ?_|fail)
 refine aI (σ := Nat) [0] [] (fun k => [(3,iv (k : Int))]) (fun k => []) (fun k => k ≤ ts.length ∧ ∀ i,i < k → 1 ≤ ts[i]! ∧ ts[i]! ≤ 4) (fun k => ts.length - k) (0) ⟨by omega,by omega⟩ ?_
 intro k ⟨hk,hall⟩
 repeat' (first|refine aD ?_|(refine aK ?_ ?_ <;> intro hc hq <;> try (exfalso;omega))|(refine bR ?_ ?_ <;> intro hg hq <;> try (exfalso;omega))|refine cC ?_|fail)
 ·(refine ⟨?_, rfl⟩; simp only [aO, AV.v.injEq, Value.bool.injEq, Value.int.injEq, true_and])
  unfold bC;grind [lG,iK]
 ·(refine aY (k + 1) (Le.renA []) ?_ ?_)
  ·grind
  ·omega
 ·(refine ⟨?_, rfl⟩; simp only [aO, AV.v.injEq, Value.bool.injEq, Value.int.injEq, true_and])
  unfold bC;grind [lG,iK]
 ·(refine ⟨?_, rfl⟩; simp only [aO, AV.v.injEq, Value.bool.injEq, Value.int.injEq, true_and])
  unfold bC;grind [lG,iK]
theorem kR (p:Prg) (hl:p.types.length ≤ 1048576) (hs:aN p.body ≤ 100000000):PC Tryz.prog 51 [bU p] (fun r => r = bv (bH p)):=by
 unfold bH
 cases ht : bC p.types
 ·refine aC Tryz.func51 Tryz.ntmps51 ?_
  repeat' (first|(apply aF;(apply aA (k := 86);rfl;(apply tW <;> (assumption));exact Pur.pf;rfl))|refine aD ?_|refine cC ?_|fail)
  (refine ⟨?_,rfl⟩; simp only [aO,AV.v.injEq,Value.bool.injEq,Value.int.injEq,true_and])
  rfl
 ·refine aC Tryz.func51 Tryz.ntmps51 ?_
  repeat' (first|(apply aF;(first|(apply aA (k := 86);rfl;(apply tW <;> (assumption));exact Pur.pf;rfl)|(apply aA (k := 87);rfl;(apply Ec <;> (first|assumption|omega));exact Pur.pf;rfl)|(apply aA (k := 88);rfl;(apply C6 <;> (first|assumption|omega));exact Pur.pf;rfl)))|refine aD ?_|(refine bR ?_ ?_ <;> intro hg hq <;> try (exfalso;omega))|refine cC ?_|fail)
  ·(refine ⟨?_, rfl⟩; simp only [aO, AV.v.injEq, Value.bool.injEq, Value.int.injEq, true_and])
   rw [show okL p.types 4 p.body = true from hq]; simp only [Bool.true_and,JU,decide_eq_decide]; omega
  ·(refine ⟨?_, rfl⟩; simp only [aO, AV.v.injEq, Value.bool.injEq, Value.int.injEq, true_and])
   rw [show okL p.types 4 p.body = false from hq]; rfl
end Go.Proofs.YtgkalkgplcdnkaaGreatDoor
namespace Go.Proofs.YtgkalkgplcdnkaaGreatDoor
open Go.AL Go.RowKit
variable {N : Nat} {Q : Exit → AS → Prop} {all : Array Oper} {rest : List Oper} {tsl : List (Nat × AV)} {hsl : List (Nat × Option (List AV))} {nidl : Nat} {z0 : Lo} {md : Md} {d : Nat} {ty : TypeId} {pos : String} {af : Array Edge} {tys : Array TypeId}
theorem Hr {ts:List Int}{s:AL.Stmt}{nest c:Int}{x0 x1 x2 x3:Operand}{i0:Nat}(ha0:ev (lk tsl) x0 = some (sl cI ts)) (ha1:ev (lk tsl) x1 = some (dB s)) (ha2:ev (lk tsl) x2 = some (iv nest)) (ha3:ev (lk tsl) x3 = some (.optr i0 0)) (hH0:aR hsl i0 = some ([iv c])) (hmc:MC Tryz.prog 125 [sl cI ts,dB s,iv nest,.optr 0 0] [(0,some ([iv c]))] 1 (fun _:Unit => True) (fun _ => bv (kJ ts nest c s).1) (fun _ => [(0,some ([iv (kJ ts nest c s).2]))])) (hM:Nat.ble (nidl + 0) aS = true) (hN:Nat.blt d N = true){md':Md}[hmd:MdA md (iA [x0,x1,x2,x3] ++ [.inr i0]) (List.map Sum.inr (List.map Prod.fst ([(i0,some ([iv (kJ ts nest c s).2]))]:List (Nat × Option (List AV)))) ++ [.inl d]) md'] (kk:RW Tryz.prog N all Q md' rest ⟨(d,bv (kJ ts nest c s).1) :: tsl,kB hsl [(i0,some ([iv (kJ ts nest c s).2]))],nidl + 0,z0⟩):RW Tryz.prog N all Q md (⟨some d,.call ⟨.value (.func 125),#[x0,x1,x2,x3],tys⟩,ty,pos,af,none⟩ :: rest) ⟨tsl,hsl,nidl,z0⟩:=by
 exact bQ (l := [x0,x1,x2,x3]) [i0] 1 [(i0,some ([iv (kJ ts nest c s).2]))] hmc (avs := [sl cI ts,dB s,iv nest,.optr i0 0]) (by simp only [evL,ha0,ha1,ha2,ha3]) rfl hM hN (md' := md') (hmd := hmd) kk
theorem qB {ts:List Int}{l:List AL.Stmt}{nest c:Int}{x0 x1 x2 x3:Operand}{i0:Nat}(ha0:ev (lk tsl) x0 = some (sl cI ts)) (ha1:ev (lk tsl) x1 = some (sl aJ l)) (ha2:ev (lk tsl) x2 = some (iv nest)) (ha3:ev (lk tsl) x3 = some (.optr i0 0)) (hH0:aR hsl i0 = some ([iv c])) (hmc:MC Tryz.prog 97 [sl cI ts,sl aJ l,iv nest,.optr 0 0] [(0,some ([iv c]))] 1 (fun _:Unit => True) (fun _ => bv (iS ts nest c l).1) (fun _ => [(0,some ([iv (iS ts nest c l).2]))])) (hM:Nat.ble (nidl + 0) aS = true) (hN:Nat.blt d N = true){md':Md}[hmd:MdA md (iA [x0,x1,x2,x3] ++ [.inr i0]) (List.map Sum.inr (List.map Prod.fst ([(i0,some ([iv (iS ts nest c l).2]))]:List (Nat × Option (List AV)))) ++ [.inl d]) md'] (kk:RW Tryz.prog N all Q md' rest ⟨(d,bv (iS ts nest c l).1) :: tsl,kB hsl [(i0,some ([iv (iS ts nest c l).2]))],nidl + 0,z0⟩):RW Tryz.prog N all Q md (⟨some d,.call ⟨.value (.func 97),#[x0,x1,x2,x3],tys⟩,ty,pos,af,none⟩ :: rest) ⟨tsl,hsl,nidl,z0⟩:=by
 exact bQ (l := [x0,x1,x2,x3]) [i0] 1 [(i0,some ([iv (iS ts nest c l).2]))] hmc (avs := [sl cI ts,sl aJ l,iv nest,.optr i0 0]) (by simp only [evL,ha0,ha1,ha2,ha3]) rfl hM hN (md' := md') (hmd := hmd) kk
theorem H5 (ts:List Int) (htO:bC ts = true) (m:Nat) (scanAll_ih:∀ l nest c,aN l < m → 0 ≤ nest → nest ≤ 4 → 0 ≤ c → c ≤ 30 → MC Tryz.prog 97 [sl cI ts,sl aJ l,iv nest,.optr 0 0] [(0,some ([iv c]))] 1 (fun _:Unit => True) (fun _ => bv (iS ts nest c l).1) (fun _ => [(0,some ([iv (iS ts nest c l).2]))])) (s:AL.Stmt) (nest c:Int) (hs:bV s ≤ m) (hn0:0 ≤ nest) (hn:nest ≤ 4) (hc0:0 ≤ c) (hc:c ≤ 30):MC Tryz.prog 125 [sl cI ts,dB s,iv nest,.optr 0 0] [(0,some ([iv c]))] 1 (fun _:Unit => True) (fun _ => bv (kJ ts nest c s).1) (fun _ => [(0,some ([iv (kJ ts nest c s).2]))]):=by
 have ct := jT s
 have hb1 := Kh ts s.th (nest + 1) (c + 1)
 refine bS Tryz.func125 Tryz.ntmps125 ?_
 repeat' (first|(apply aF;(first|(apply qB;rfl;rfl;rfl;rfl;(rfl);(apply scanAll_ih <;> (first|assumption|omega|grind));rfl;rfl)|(apply aA (k := 143);rfl;(apply A9);(rfl);rfl)|(apply aA (k := 144);rfl;(apply AJ <;> (assumption));exact Pur.pf;rfl)))|refine aD ?_|(refine aK ?_ ?_ <;> intro hc hq <;> try (exfalso;omega))|(refine bR ?_ ?_ <;> intro hg hq <;> try (exfalso;omega))|fail)
 all_goals (refine aE rfl ?_; refine bJ () trivial ?_ ⟨sE ?_,trivial⟩)
 all_goals (try simp only [aO,AV.v.injEq,Value.bool.injEq,Value.int.injEq,true_and,j8,List.take,List.drop,List.length,List.append,List.nil_append,List.append_nil,Option.some.injEq,List.cons.injEq,and_true])
 all_goals rw [H6]
 all_goals clear scanAll_ih
 all_goals (cases hel : s.el <;> simp only [hel,List.length_nil,List.length_cons] at * <;> grind)
theorem Ah (ts:List Int) (m:Nat) (hm:m ≤ 100000000) (scan_ih:∀ s nest c,bV s ≤ m → 0 ≤ nest → nest ≤ 4 → 0 ≤ c → c ≤ 30 → MC Tryz.prog 125 [sl cI ts,dB s,iv nest,.optr 0 0] [(0,some ([iv c]))] 1 (fun _:Unit => True) (fun _ => bv (kJ ts nest c s).1) (fun _ => [(0,some ([iv (kJ ts nest c s).2]))])) (l:List AL.Stmt) (nest c:Int) (hs:aN l ≤ m) (hn0:0 ≤ nest) (hn:nest ≤ 4) (hc0:0 ≤ c) (hc:c ≤ 30):MC Tryz.prog 97 [sl cI ts,sl aJ l,iv nest,.optr 0 0] [(0,some ([iv c]))] 1 (fun _:Unit => True) (fun _ => bv (iS ts nest c l).1) (fun _ => [(0,some ([iv (iS ts nest c l).2]))]):=by
 have hlen := cZ l
 refine bS Tryz.func97 Tryz.ntmps97 ?_
 repeat' (first|refine aD ?_|fail)
 refine aI (σ := Nat × Int) [0,2,3,11,12] [] (fun k => [(13,iv (k.1 : Int))]) (fun k => [(0,some [iv k.2])]) (fun k => k.1 ≤ l.length ∧ iS ts nest k.2 (l.drop k.1) = iS ts nest c l ∧ 0 ≤ k.2 ∧ k.2 ≤ 30) (fun k => l.length - k.1) (0,c) ⟨by omega,rfl,by omega,by omega⟩ ?_
 rintro ⟨k,c'⟩ ⟨hk,hn,hn0,hn1⟩
 dsimp only at hk hn hn0 hn1 ⊢
 have hck := fA l k
 have hb1 := JJ ts l[k]! nest c'
 have hst := @scL_stop ts nest c' l k
 repeat' (first|(apply aF;(apply Hr;rfl;rfl;rfl;rfl;(rfl);(apply scan_ih <;> (first|assumption|omega));rfl;rfl))|refine aD ?_|(refine aK ?_ ?_ <;> intro hc hq <;> try (exfalso;omega))|fail)
 ·(refine aE rfl ?_; refine bJ () trivial ?_ ⟨sE ?_, trivial⟩)
  all_goals (try simp only [aO,AV.v.injEq,Value.bool.injEq,Value.int.injEq,true_and,j8,List.take,List.drop,List.length,List.append,List.nil_append,List.append_nil,Option.some.injEq,List.cons.injEq,and_true])
  all_goals (rw [← hn,hst (by omega)]; grind)
 ·(refine aY (k + 1, (kJ ts nest c' l[k]!).2) (Le.renA []) ?_ ?_)
  ·dsimp only;grind
  ·dsimp only;omega
 ·(refine aE rfl ?_; refine bJ () trivial ?_ ⟨sE ?_, trivial⟩)
  all_goals (try simp only [aO,AV.v.injEq,Value.bool.injEq,Value.int.injEq,true_and,j8,List.take,List.drop,List.length,List.append,List.nil_append,List.append_nil,Option.some.injEq,List.cons.injEq,and_true])
  all_goals (rw [← hn,List.drop_of_length_le (by omega),iS])
theorem Df (ts:List Int) (hl:bC ts = true):∀ (m:Nat),m ≤ 100000000 → (∀ s (nest c:Int),bV s ≤ m → 0 ≤ nest → nest ≤ 4 → 0 ≤ c → c ≤ 30 → MC Tryz.prog 125 [sl cI ts,dB s,iv nest,.optr 0 0] [(0,some ([iv c]))] 1 (fun _:Unit => True) (fun _ => bv (kJ ts nest c s).1) (fun _ => [(0,some ([iv (kJ ts nest c s).2]))])) ∧
  (∀ l (nest c : Int),aN l ≤ m → 0 ≤ nest → nest ≤ 4 → 0 ≤ c → c ≤ 30 → MC Tryz.prog 97 [sl cI ts,sl aJ l,iv nest,.optr 0 0] [(0,some ([iv c]))] 1 (fun _ : Unit => True) (fun _ => bv (iS ts nest c l).1) (fun _ => [(0,some ([iv (iS ts nest c l).2]))])) := by
 intro m
 induction m using Nat.strongRecOn with
 | ind m ih =>
  intro hm
  have h1 : ∀ s (nest c : Int), bV s ≤ m → 0 ≤ nest → nest ≤ 4 → 0 ≤ c → c ≤ 30 → MC Tryz.prog 125 [sl cI ts, dB s, iv nest, .optr 0 0] [(0, some ([iv c]))] 1 (fun _ : Unit => True) (fun _ => bv (kJ ts nest c s).1) (fun _ => [(0, some ([iv (kJ ts nest c s).2]))]) :=
   fun s nest c h1 h2 h3 h4 h5 => H5 ts hl m (fun l nest c g1 g2 g3 g4 g5 => (ih (aN l) g1 (by omega)).2 l nest c (Nat.le_refl _) g2 g3 g4 g5) s nest c h1 h2 h3 h4 h5
  exact ⟨h1,fun l nest c g1 g2 g3 g4 g5 => Ah ts m hm h1 l nest c g1 g2 g3 g4 g5⟩
theorem DK (ts:List Int) (l:List AL.Stmt) (nest c:Int) (hl:bC ts = true) (hs:aN l ≤ 100000000) (hn0:0 ≤ nest) (hn:nest ≤ 4) (hc0:0 ≤ c) (hc:c ≤ 30):MC Tryz.prog 97 [sl cI ts,sl aJ l,iv nest,.optr 0 0] [(0,some ([iv c]))] 1 (fun _:Unit => True) (fun _ => bv (iS ts nest c l).1) (fun _ => [(0,some ([iv (iS ts nest c l).2]))]) :=
 (Df ts hl _ hs).2 l nest c (Nat.le_refl _) hn0 hn hc0 hc
theorem AY (t:Int):PC Tryz.prog 124 [iv t] (fun r => r = bv (!(decide (1 ≤ t) && decide (t ≤ 4)))):=by
 refine aC Tryz.func124 Tryz.ntmps124 ?_
 repeat' (first|(apply aF;(apply aA (k := 59);rfl;(apply nD);(rfl);rfl))|refine aD ?_|refine cC ?_|fail)
 all_goals (refine ⟨?_,rfl⟩; simp only [aO,AV.v.injEq,Value.bool.injEq,Value.int.injEq,true_and])
def pT (ts : List Int) : Int := match ts.findIdx? (fun t => !(decide (1 ≤ t) && decide (t ≤ 4))) with | some i => i | none => -1
theorem En (ts:List Int) (hl:ts.length ≤ 1048576):PC Tryz.prog 114 [sl cI ts,.v (.func (.func 124) #[] #[])] (fun r => r = iv (pT ts)):=by
 refine aC Tryz.func114 Tryz.ntmps114 ?_
 repeat' (first|refine aD ?_|fail)
 refine aI (σ := Nat) [0,1,7] [] (fun k => [(8,iv (k : Int))]) (fun k => []) (fun k => k ≤ ts.length ∧ ∀ i,i < k → 1 ≤ ts[i]! ∧ ts[i]! ≤ 4) (fun k => ts.length - k) (0) ⟨by omega,by omega⟩ ?_
 intro k ⟨hk,hall⟩
 repeat' (first|(apply aF;(apply jJ;rfl;rfl;infer_instance;rfl;(apply AY);(rfl);rfl))|refine aD ?_|(refine aK ?_ ?_ <;> intro hc hq <;> try (exfalso;omega))|refine cC ?_|fail)
 ·(refine ⟨?_, rfl⟩; simp only [aO, AV.v.injEq, Value.bool.injEq, Value.int.injEq, true_and])
  have hlt : k < ts.length := by omega
  have : ts.findIdx? (fun t => !(decide (1 ≤ t) && decide (t ≤ 4))) = some k := by
   rw [List.findIdx?_eq_some_iff_getElem]
   refine ⟨hlt,?_,fun j hj => ?_⟩
   ·rw [← a8 ts k hlt]; grind
   ·have := hall j hj;rw [a8 ts j (by omega)] at this;simp;omega
  simp only [pT,this]
 ·(refine aY (k + 1) (Le.renA []) ?_ ?_)
  ·grind
  ·omega
 ·(refine ⟨?_, rfl⟩; simp only [aO, AV.v.injEq, Value.bool.injEq, Value.int.injEq, true_and])
  have : ts.findIdx? (fun t => !(decide (1 ≤ t) && decide (t ≤ 4))) = none := by
   rw [List.findIdx?_eq_none_iff]
   intro x hx
   obtain ⟨i,hi,rfl⟩ := List.getElem_of_mem hx
   have := hall i (by omega);rw [a8 ts i hi] at this;simp;omega
  simp only [pT,this]
theorem Cw (ts:List Int):decide (0 ≤ pT ts) = !(ts.all (fun t => decide (1 ≤ t) && decide (t ≤ 4))):=by
 unfold pT
 split
 ·rename_i i h
  obtain ⟨h1,h2,_⟩ := List.findIdx?_eq_some_iff_getElem.1 h
  have : ts.all (fun t => decide (1 ≤ t) && decide (t ≤ 4)) = false := by
   rw [List.all_eq_false]; exact ⟨ts[i],List.getElem_mem h1,by simp at h2 ⊢; omega⟩
  rw [this]; simp
 ·rename_i h
  rw [List.findIdx?_eq_none_iff] at h
  have : ts.all (fun t => decide (1 ≤ t) && decide (t ≤ 4)) = true := by
   rw [List.all_eq_true]; intro x hx;simpa using h x hx
  rw [this]; rfl
theorem Cz (ts:List Int) (hl:ts.length ≤ 1048576):PC Tryz.prog 74 [sl cI ts,.v (.func (.func 124) #[] #[])] (fun r => r = bv (!(ts.all (fun t => decide (1 ≤ t) && decide (t ≤ 4))))):=by
 refine aC Tryz.func74 Tryz.ntmps74 ?_
 repeat' (first|(apply aF;(apply aA (k := 114);rfl;(apply En <;> (assumption));exact Pur.pf;rfl))|refine aD ?_|refine cC ?_|fail)
 (refine ⟨?_,rfl⟩; simp only [aO,AV.v.injEq,Value.bool.injEq,Value.int.injEq,true_and])
 exact Cw ts
theorem qT (ts:List Int) (hl:ts.length ≤ 1048576):PC Tryz.prog 96 [sl cI ts] (fun r => r = bv (bC ts)):=by
 refine aC Tryz.func96 Tryz.ntmps96 ?_
 repeat' (first|(apply aF;(apply aA (k := 74);rfl;(apply Cz <;> (assumption));exact Pur.pf;rfl))|refine aD ?_|(refine bR ?_ ?_ <;> intro hg hq <;> try (exfalso;omega))|refine cC ?_|fail)
 all_goals (refine ⟨?_,rfl⟩; simp only [aO,AV.v.injEq,Value.bool.injEq,Value.int.injEq,true_and])
 all_goals (unfold bC;grind)
theorem Gi (p:Prg) (hl:p.types.length ≤ 1048576) (hs:aN p.body ≤ 100000000):PC Tryz.prog 57 [bU p] (fun r => r = bv (bH p)):=by
 rw [← De]
 cases ht : bC p.types
 ·refine aC Tryz.func57 Tryz.ntmps57 ?_
  repeat' (first|(apply aF;(apply aA (k := 96);rfl;(apply qT <;> (assumption));exact Pur.pf;rfl))|refine aD ?_|refine cC ?_|fail)
  all_goals (refine ⟨?_,rfl⟩; simp only [aO,AV.v.injEq,Value.bool.injEq,Value.int.injEq,true_and])
  all_goals grind
 ·refine aC Tryz.func57 Tryz.ntmps57 ?_
  repeat' (first|(apply aF;(first|(apply aA (k := 96);rfl;(apply qT <;> (assumption));exact Pur.pf;rfl)|(apply qB;rfl;rfl;rfl;rfl;(rfl);(apply DK <;> (first|assumption|omega));rfl;rfl)))|refine aD ?_|refine cC ?_|fail)
  all_goals (refine ⟨?_,rfl⟩; simp only [aO,AV.v.injEq,Value.bool.injEq,Value.int.injEq,true_and])
  all_goals grind
theorem oN {l:List AL.Stmt}{pts:List Pnt}{m:Nat}{x0 x1:Operand}{i0:Nat}(ha0:ev (lk tsl) x0 = some (sl aJ l)) (ha1:ev (lk tsl) x1 = some (.own i0 0 m 5)) (hH0:aR hsl i0 = some (flat bK pts)) (hmc:MC Tryz.prog 98 [sl aJ l,.own 0 0 m 5] [(0,some (flat bK pts))] 1 (fun _:Unit => True) (fun _ => .own 1 0 (m + cJ l) 5) (fun _ => [(1,some (flat bK (pts ++ fF pts.length l)))])) (hM:Nat.ble (nidl + 1) aS = true) (hN:Nat.blt d N = true){md':Md}[hmd:MdA md (iA [x0,x1] ++ [.inr i0]) (List.map Sum.inr (List.map Prod.fst ([(nidl,some (flat bK (pts ++ fF pts.length l))),(i0,none)]:List (Nat × Option (List AV)))) ++ [.inl d]) md'] (kk:RW Tryz.prog N all Q md' rest ⟨(d,.own nidl 0 (m + cJ l) 5) :: tsl,kB hsl [(nidl,some (flat bK (pts ++ fF pts.length l))),(i0,none)],nidl + 1,z0⟩):RW Tryz.prog N all Q md (⟨some d,.call ⟨.value (.func 98),#[x0,x1],tys⟩,ty,pos,af,none⟩ :: rest) ⟨tsl,hsl,nidl,z0⟩:=by
 exact bQ (l := [x0,x1]) [i0] 2 [(nidl,some (flat bK (pts ++ fF pts.length l))),(i0,none)] hmc (avs := [sl aJ l,.own i0 0 m 5]) (by simp only [evL,ha0,ha1]) rfl hM hN (md' := md') (hmd := hmd) kk
theorem xX (mm:Nat) (hmm:mm ≤ 1048576) (pointsOf_ih:∀ l pts m,aN l < mm → m = pts.length → m + cJ l ≤ 13000000 → MC Tryz.prog 98 [sl aJ l,.own 0 0 m 5] [(0,some (flat bK pts))] 1 (fun _:Unit => True) (fun _ => .own 1 0 (m + cJ l) 5) (fun _ => [(1,some (flat bK (pts ++ fF pts.length l)))])) (l:List AL.Stmt) (pts:List Pnt) (m:Nat) (hs:aN l ≤ mm) (hm:m = pts.length) (hb:m + cJ l ≤ 13000000):MC Tryz.prog 98 [sl aJ l,.own 0 0 m 5] [(0,some (flat bK pts))] 1 (fun _:Unit => True) (fun _ => .own 1 0 (m + cJ l) 5) (fun _ => [(1,some (flat bK (pts ++ fF pts.length l)))]):=by
 have hlen := cZ l
 subst hm
 refine bS Tryz.func98 Tryz.ntmps98 ?_
 repeat' (first|refine aD ?_|fail)
 refine AW.le ?_ (Le.mv (d := 1) (i := 0) (cs := flat bK pts) rfl rfl (by decide))
 refine aI (σ := Nat × List Pnt × Nat) [9,10] [] (fun k => [(11,iv (k.1 : Int)),(1,.own 1 0 k.2.2 5)]) (fun k => [(1,some (flat bK k.2.1))]) (fun k => k.1 ≤ l.length ∧ k.2.1 = pts ++ fF pts.length (l.take k.1) ∧ k.2.2 = k.2.1.length ∧ k.2.2 = pts.length + cJ (l.take k.1)) (fun k => l.length - k.1) (0,pts,pts.length) ⟨by omega,by simp [fF],rfl,by simp [cJ]⟩ ?_
 rintro ⟨k,xs,m1⟩ ⟨hk,hxs,hm1,hm2⟩
 dsimp only at hk hxs hm1 hm2 ⊢
 have hck := fA l k
 have hct := jT l[k]!
 have hnt := z8 l k
 have n9 := E5 l[k]!
 have n10 := Bd l[k]!
 have n1 := Gj l[k]!
 repeat' (first|(apply aF;first|(apply aL (t := _);rfl;rfl;rfl;(first|exact (rfl:_=some [_])|exact (rfl:_=some [_,_])|exact (rfl:_=some [_,_,_,_,_]));rfl;rfl)|(apply oN;rfl;rfl;(rfl);(apply pointsOf_ih <;> (first|omega|(simp only [iX] <;> omega)));rfl;rfl))|refine aD ?_|(refine aK ?_ ?_ <;> intro hc hq <;> try (exfalso;omega))|fail)
 ·(refine aY (k + 1, _, _) (Le.renA [(1, 8)]) ?_ ?_)
  ·dsimp only
   rw [uR hm1,vQ hm1,v7 (by rw [bE,hm1]),vB (by rw [bE,hm1]),eX l _ k (by omega),eE l k (by omega),gM,if_pos hq,n9 hq]
   refine ⟨by omega,?_,by simp [bE]; omega,by omega⟩
   have e1 : xs.length = pts.length + cJ (l.take k) := by omega
   rw [← List.append_assoc pts,← hxs,← e1]
   simp only [List.append_assoc,List.length_append,List.length_cons,List.length_nil,bE,hm1,Nat.zero_add]
   clear pointsOf_ih hxs hck hnt n9 n10 n1
   grind
  ·dsimp only;omega
 ·(refine aY (k + 1, _, _) (Le.renA [(1, 8)]) ?_ ?_)
  ·dsimp only
   rw [A4 hm1,Bc hm1,eX l _ k (by omega),eE l k (by omega),gM,if_neg (by omega),if_pos hq,n10 hq]
   refine ⟨by omega,?_,by simp [bE]; omega,by omega⟩
   have e1 : xs.length = pts.length + cJ (l.take k) := by omega
   rw [← List.append_assoc pts,← hxs,← e1]
   simp only [List.append_assoc,List.length_append,List.length_cons,List.length_nil,bE,hm1,Nat.zero_add]
   clear pointsOf_ih hxs hck hnt n9 n10 n1
   grind
  ·dsimp only;omega
 ·(refine aY (k + 1, _, _) (Le.renA [(1, 5)]) ?_ ?_)
  ·dsimp only
   rw [eX l _ k (by omega),eE l k (by omega),gM,if_neg ‹¬l[k]!.op = 9›,if_neg hq,n1 ‹¬l[k]!.op = 9› hq]
   refine ⟨by omega,?_,by simp [bE]; omega,by omega⟩
   have e1 : xs.length = pts.length + cJ (l.take k) := by omega
   rw [← List.append_assoc pts,← hxs,← e1,hm1]
  ·dsimp only;omega
 ·refine aE rfl ?_
  have e2 : l.take k = l := List.take_of_length_le (by omega)
  rw [e2] at hxs hm2
  refine bJ () trivial ?_ ⟨sE ?_,trivial⟩
  ·simp only [aO]; rw [hm2]
  ·rw [hxs]
theorem zZ (l:List AL.Stmt) (pts:List Pnt) (m:Nat) (hs:aN l ≤ 1048576) (hm:m = pts.length) (hb:m + cJ l ≤ 13000000):MC Tryz.prog 98 [sl aJ l,.own 0 0 m 5] [(0,some (flat bK pts))] 1 (fun _:Unit => True) (fun _ => .own 1 0 (m + cJ l) 5) (fun _ => [(1,some (flat bK (pts ++ fF pts.length l)))]):=by
 have h : ∀ (mm : Nat), mm ≤ 1048576 → ∀ l pts m, aN l ≤ mm → m = pts.length → m + cJ l ≤ 13000000 → MC Tryz.prog 98 [sl aJ l, .own 0 0 m 5] [(0, some (flat bK pts))] 1 (fun _ : Unit => True) (fun _ => .own 1 0 (m + cJ l) 5) (fun _ => [(1, some (flat bK (pts ++ fF pts.length l)))]) := by
  intro mm
  induction mm using Nat.strongRecOn with
  | ind mm ih =>
   intro h0 l pts m h1 h2 h3
   exact xX mm h0 (fun l' pts' m' g1 g2 g3 => ih _ g1 (by omega) l' pts' m' (Nat.le_refl _) g2 g3) l pts m h1 h2 h3
 exact h _ hs l pts m (Nat.le_refl _) hm hb
theorem uJ {l:List AL.Stmt}{x0 x1:Operand}(ha0:ev (lk tsl) x0 = some (sl aJ l)) (ha1:ev (lk tsl) x1 = some (.v (.slice none 0 0))) (hmc:MC Tryz.prog 98 [sl aJ l,.v (.slice none 0 0)] [] 0 (fun _:Unit => True) (fun _ => .own 0 0 (cJ l) 5) (fun _ => [(0,some (flat bK (fF 0 l)))])) (hM:Nat.ble (nidl + 1) aS = true) (hN:Nat.blt d N = true){md':Md}[hmd:MdA md (iA [x0,x1] ++ []) (List.map Sum.inr (List.map Prod.fst ([(nidl,some (flat bK (fF 0 l)))]:List (Nat × Option (List AV)))) ++ [.inl d]) md'] (kk:RW Tryz.prog N all Q md' rest ⟨(d,.own nidl 0 (cJ l) 5) :: tsl,kB hsl [(nidl,some (flat bK (fF 0 l)))],nidl + 1,z0⟩):RW Tryz.prog N all Q md (⟨some d,.call ⟨.value (.func 98),#[x0,x1],tys⟩,ty,pos,af,none⟩ :: rest) ⟨tsl,hsl,nidl,z0⟩:=by
 exact bQ (l := [x0,x1]) [] 1 [(nidl,some (flat bK (fF 0 l)))] hmc (avs := [sl aJ l,.v (.slice none 0 0)]) (by simp only [evL,ha0,ha1]) rfl hM hN (md' := md') (hmd := hmd) kk
theorem yW (l:List AL.Stmt) (hs:aN l ≤ 1048576):MC Tryz.prog 98 [sl aJ l,.v (.slice none 0 0)] [] 0 (fun _:Unit => True) (fun _ => .own 0 0 (cJ l) 5) (fun _ => [(0,some (flat bK (fF 0 l)))]):=by
 have hlen := cZ l
 have hn2 := kV l
 refine bS Tryz.func98 Tryz.ntmps98 ?_
 repeat' (first|refine aD ?_|fail)
 refine AW.le ?_ (Le.nilOwn (d := 1) 5 rfl (by decide))
 refine aI (σ := Nat × List Pnt × Nat) [9,10] [] (fun k => [(11,iv (k.1 : Int)),(1,.own 0 0 k.2.2 5)]) (fun k => [(0,some (flat bK k.2.1))]) (fun k => k.1 ≤ l.length ∧ k.2.1 = fF 0 (l.take k.1) ∧ k.2.2 = k.2.1.length ∧ k.2.2 = cJ (l.take k.1)) (fun k => l.length - k.1) (0,[],0) ⟨by omega,by simp [fF],rfl,by simp [cJ]⟩ ?_
 rintro ⟨k,xs,m1⟩ ⟨hk,hxs,hm1,hm2⟩
 dsimp only at hk hxs hm1 hm2 ⊢
 have hck := fA l k
 have hct := jT l[k]!
 have hnt := z8 l k
 have n9 := E5 l[k]!
 have n10 := Bd l[k]!
 have n1 := Gj l[k]!
 repeat' (first|(apply aF;first|(apply aL (t := _);rfl;rfl;rfl;(first|exact (rfl:_=some [_])|exact (rfl:_=some [_,_])|exact (rfl:_=some [_,_,_,_,_]));rfl;rfl)|(apply oN;rfl;rfl;(rfl);(apply zZ <;> (first|omega|(simp only [iX] <;> omega)));rfl;rfl))|refine aD ?_|(refine aK ?_ ?_ <;> intro hc hq <;> try (exfalso;omega))|fail)
 ·(refine aY (k + 1, _, _) (Le.renA [(0, 7)]) ?_ ?_)
  ·dsimp only
   rw [uR hm1,vQ hm1,v7 (by rw [bE,hm1]),vB (by rw [bE,hm1]),eX l _ k (by omega),eE l k (by omega),gM,if_pos hq,n9 hq]
   refine ⟨by omega,?_,by simp [bE]; omega,by omega⟩
   have e1 : cJ (l.take k) = xs.length := by omega
   rw [Nat.zero_add,e1]
   rw [← hxs]
   simp only [List.append_assoc,List.length_append,List.length_cons,List.length_nil,bE,hm1,Nat.zero_add]
   clear hxs hck hnt n9 n10 n1
   grind
  ·dsimp only;omega
 ·(refine aY (k + 1, _, _) (Le.renA [(0, 7)]) ?_ ?_)
  ·dsimp only
   rw [A4 hm1,Bc hm1,eX l _ k (by omega),eE l k (by omega),gM,if_neg (by omega),if_pos hq,n10 hq]
   refine ⟨by omega,?_,by simp [bE]; omega,by omega⟩
   have e1 : cJ (l.take k) = xs.length := by omega
   rw [Nat.zero_add,e1]
   rw [← hxs]
   simp only [List.append_assoc,List.length_append,List.length_cons,List.length_nil,bE,hm1,Nat.zero_add]
   clear hxs hck hnt n9 n10 n1
   grind
  ·dsimp only;omega
 ·(refine aY (k + 1, _, _) (Le.renA [(0, 4)]) ?_ ?_)
  ·dsimp only
   rw [eX l _ k (by omega),eE l k (by omega),gM,if_neg ‹¬l[k]!.op = 9›,if_neg hq,n1 ‹¬l[k]!.op = 9› hq]
   refine ⟨by omega,?_,by simp [bE]; omega,by omega⟩
   have e1 : cJ (l.take k) = xs.length := by omega
   rw [Nat.zero_add,e1]
   rw [← hxs,hm1]
  ·dsimp only;omega
 ·refine aE rfl ?_
  have e2 : l.take k = l := List.take_of_length_le (by omega)
  rw [e2] at hxs hm2
  refine bJ () trivial ?_ ⟨sE ?_,trivial⟩
  ·simp only [aO]; rw [hm2]
  ·rw [hxs]
theorem ET (p:Prg) (hs:aN p.body ≤ 1048576):PC Tryz.prog 58 [bU p] (fun r => r = sl bK (aB p)):=by
 have hn := kV p.body
 refine aC Tryz.func58 Tryz.ntmps58 ?_
 repeat' (first|(apply aF;first|(apply aL (t := _);rfl;rfl;rfl;(exact (rfl:_=some [_,_,_,_,_]));rfl;rfl)|(apply uJ;rfl;rfl;(apply yW <;> (assumption));rfl;rfl))|refine aD ?_|fail)
 (refine aT (Le.frzD (d := 2) (i := 3) rfl rfl) ?_; refine aE rfl ?_)
 refine ⟨?_,?_⟩
 ·simp only [aO,sl,aB,List.length_append,List.length_cons,List.length_nil,bE,Nat.zero_add]
 ·(exact a7 _ _)
theorem w8 {l:List AL.Stmt}{pts:List Pnt}{m:Nat}{x0 x1:Operand}{i0:Nat}(ha0:ev (lk tsl) x0 = some (.own i0 0 m 5)) (ha1:ev (lk tsl) x1 = some (sl aJ l)) (hH0:aR hsl i0 = some (flat bK pts)) (hmc:MC Tryz.prog 54 [.own 0 0 m 5,sl aJ l] [(0,some (flat bK pts))] 1 (fun _:Unit => True) (fun _ => .own 1 0 (m + cJ l) 5) (fun _ => [(1,some (flat bK (pts ++ fF pts.length l)))])) (hM:Nat.ble (nidl + 1) aS = true) (hN:Nat.blt d N = true){md':Md}[hmd:MdA md (iA [x0,x1] ++ [.inr i0]) (List.map Sum.inr (List.map Prod.fst ([(nidl,some (flat bK (pts ++ fF pts.length l))),(i0,none)]:List (Nat × Option (List AV)))) ++ [.inl d]) md'] (kk:RW Tryz.prog N all Q md' rest ⟨(d,.own nidl 0 (m + cJ l) 5) :: tsl,kB hsl [(nidl,some (flat bK (pts ++ fF pts.length l))),(i0,none)],nidl + 1,z0⟩):RW Tryz.prog N all Q md (⟨some d,.call ⟨.value (.func 54),#[x0,x1],tys⟩,ty,pos,af,none⟩ :: rest) ⟨tsl,hsl,nidl,z0⟩:=by
 exact bQ (l := [x0,x1]) [i0] 2 [(nidl,some (flat bK (pts ++ fF pts.length l))),(i0,none)] hmc (avs := [.own i0 0 m 5,sl aJ l]) (by simp only [evL,ha0,ha1]) rfl hM hN (md' := md') (hmd := hmd) kk
theorem FJ (mm:Nat) (hmm:mm ≤ 1048576) (l2Add_ih:∀ l pts m,aN l < mm → m = pts.length → m + cJ l ≤ 13000000 → MC Tryz.prog 54 [.own 0 0 m 5,sl aJ l] [(0,some (flat bK pts))] 1 (fun _:Unit => True) (fun _ => .own 1 0 (m + cJ l) 5) (fun _ => [(1,some (flat bK (pts ++ fF pts.length l)))])) (l:List AL.Stmt) (pts:List Pnt) (m:Nat) (hs:aN l ≤ mm) (hm:m = pts.length) (hb:m + cJ l ≤ 13000000):MC Tryz.prog 54 [.own 0 0 m 5,sl aJ l] [(0,some (flat bK pts))] 1 (fun _:Unit => True) (fun _ => .own 1 0 (m + cJ l) 5) (fun _ => [(1,some (flat bK (pts ++ fF pts.length l)))]):=by
 have hlen := cZ l
 subst hm
 refine bS Tryz.func54 Tryz.ntmps54 ?_
 repeat' (first|refine aD ?_|fail)
 refine AW.le ?_ (Le.mv (d := 0) (i := 0) (cs := flat bK pts) rfl rfl (by decide))
 refine aI (σ := Nat × List Pnt × Nat) [1] [] (fun k => [(5,iv (k.1 : Int)),(0,.own 1 0 k.2.2 5)]) (fun k => [(1,some (flat bK k.2.1))]) (fun k => k.1 ≤ l.length ∧ k.2.1 = pts ++ fF pts.length (l.take k.1) ∧ k.2.2 = k.2.1.length ∧ k.2.2 = pts.length + cJ (l.take k.1)) (fun k => l.length - k.1) (0,pts,pts.length) ⟨by omega,by simp [fF],rfl,by simp [cJ]⟩ ?_
 rintro ⟨k,xs,m1⟩ ⟨hk,hxs,hm1,hm2⟩
 dsimp only at hk hxs hm1 hm2 ⊢
 have hck := fA l k
 have hct := jT l[k]!
 have hnt := z8 l k
 have n9 := E5 l[k]!
 have n10 := Bd l[k]!
 have n1 := Gj l[k]!
 repeat' (first|(apply aF;first|(apply aL (t := _);rfl;rfl;rfl;(first|exact (rfl:_=some [_])|exact (rfl:_=some [_,_])|exact (rfl:_=some [_,_,_,_,_]));rfl;rfl)|(apply w8;rfl;rfl;(rfl);(apply l2Add_ih <;> (first|omega|(simp only [iX] <;> omega)));rfl;rfl))|refine aD ?_|(refine aK ?_ ?_ <;> intro hc hq <;> try (exfalso;omega))|fail)
 ·(refine aY (k + 1, _, _) (Le.renA [(1, 8)]) ?_ ?_)
  ·dsimp only
   rw [v7 (by rw [bE,hm1]),vB (by rw [bE,hm1]),uR hm1,vQ hm1,eX l _ k (by omega),eE l k (by omega),gM,if_pos hq,n9 hq]
   refine ⟨by omega,?_,by simp [bE]; omega,by omega⟩
   have e1 : xs.length = pts.length + cJ (l.take k) := by omega
   rw [← List.append_assoc pts,← hxs,← e1]
   simp only [List.append_assoc,List.length_append,List.length_cons,List.length_nil,bE,hm1,Nat.zero_add]
   clear l2Add_ih hxs hck hnt n9 n10 n1
   grind
  ·dsimp only;omega
 ·(refine aY (k + 1, _, _) (Le.renA [(1, 8)]) ?_ ?_)
  ·dsimp only
   rw [A4 hm1,Bc hm1,eX l _ k (by omega),eE l k (by omega),gM,if_neg (by omega),if_pos hq,n10 hq]
   refine ⟨by omega,?_,by simp [bE]; omega,by omega⟩
   have e1 : xs.length = pts.length + cJ (l.take k) := by omega
   rw [← List.append_assoc pts,← hxs,← e1]
   simp only [List.append_assoc,List.length_append,List.length_cons,List.length_nil,bE,hm1,Nat.zero_add]
   clear l2Add_ih hxs hck hnt n9 n10 n1
   grind
  ·dsimp only;omega
 ·(refine aY (k + 1, _, _) (Le.renA [(1, 5)]) ?_ ?_)
  ·dsimp only
   rw [eX l _ k (by omega),eE l k (by omega),gM,if_neg ‹¬l[k]!.op = 9›,if_neg hq,n1 ‹¬l[k]!.op = 9› hq]
   refine ⟨by omega,?_,by simp [bE]; omega,by omega⟩
   have e1 : xs.length = pts.length + cJ (l.take k) := by omega
   rw [← List.append_assoc pts,← hxs,← e1,hm1]
  ·dsimp only;omega
 ·refine aE rfl ?_
  have e2 : l.take k = l := List.take_of_length_le (by omega)
  rw [e2] at hxs hm2
  refine bJ () trivial ?_ ⟨sE ?_,trivial⟩
  ·simp only [aO]; rw [hm2]
  ·rw [hxs]
theorem IE (l:List AL.Stmt) (pts:List Pnt) (m:Nat) (hs:aN l ≤ 1048576) (hm:m = pts.length) (hb:m + cJ l ≤ 13000000):MC Tryz.prog 54 [.own 0 0 m 5,sl aJ l] [(0,some (flat bK pts))] 1 (fun _:Unit => True) (fun _ => .own 1 0 (m + cJ l) 5) (fun _ => [(1,some (flat bK (pts ++ fF pts.length l)))]):=by
 have h : ∀ (mm : Nat), mm ≤ 1048576 → ∀ l pts m, aN l ≤ mm → m = pts.length → m + cJ l ≤ 13000000 → MC Tryz.prog 54 [.own 0 0 m 5, sl aJ l] [(0, some (flat bK pts))] 1 (fun _ : Unit => True) (fun _ => .own 1 0 (m + cJ l) 5) (fun _ => [(1, some (flat bK (pts ++ fF pts.length l)))]) := by
  intro mm
  induction mm using Nat.strongRecOn with
  | ind mm ih =>
   intro h0 l pts m h1 h2 h3
   exact FJ mm h0 (fun l' pts' m' g1 g2 g3 => ih _ g1 (by omega) l' pts' m' (Nat.le_refl _) g2 g3) l pts m h1 h2 h3
 exact h _ hs l pts m (Nat.le_refl _) hm hb
theorem dD (p:Prg) (hs:aN p.body ≤ 1048576):PC Tryz.prog 23 [bU p] (fun r => r = sl bK (aB p)):=by
 have hn := kV p.body
 have e0 : ([] : List AV) = flat bK [] := rfl
 refine aC Tryz.func23 Tryz.ntmps23 ?_
 repeat' (first|(apply aF;(apply w8;rfl;rfl;(exact CG rfl);(apply IE <;> (first|assumption|omega|(simp only [iX] <;> omega)));rfl;rfl))|refine aD ?_|fail)
 (refine aT (Le.frzD (d := 2) (i := 4) rfl rfl) ?_; refine aE rfl ?_)
 refine ⟨?_,(by (exact a7 _ _))⟩
 simp only [aO,sl,aB,List.length_append,List.length_cons,List.length_nil,bE,Nat.zero_add,List.nil_append]
theorem Cp (ts:List Int) (bd:List AL.Stmt) (pts:List Pnt) (v:Int) (h:0 ≤ v ∧ v < ts.length):PC Tryz.prog 146 [aG ts bd pts,iv v] (fun r => r = bv (J7 ts[v.toNat]!)):=by
 refine aC Tryz.func146 Tryz.ntmps146 ?_
 repeat' (first|refine aD ?_|(refine bR ?_ ?_ <;> intro hg hq <;> try (exfalso;omega))|refine cC ?_|fail)
 all_goals (refine ⟨?_,rfl⟩; simp only [aO,AV.v.injEq,Value.bool.injEq,Value.int.injEq,true_and])
 all_goals grind [J7]
theorem Ll (ts:List Int) (bd:List AL.Stmt) (pts:List Pnt) (x:Pnt) (v:Int) (h:0 ≤ v ∧ v < ts.length):PC Tryz.prog 138 [aG ts bd pts,kN x,iv v] (fun r => r = iv (aU ts x v)):=by
 refine aC Tryz.func138 Tryz.ntmps138 ?_
 repeat' (first|(apply aF;(apply aA (k := 146);rfl;(apply Cp <;> (assumption));exact Pur.pf;rfl))|refine aD ?_|(refine aK ?_ ?_ <;> intro hc hq <;> try (exfalso;omega))|(refine bR ?_ ?_ <;> intro hg hq <;> try (exfalso;omega))|refine cC ?_|fail)
 all_goals (refine ⟨?_,rfl⟩; simp only [aO,AV.v.injEq,Value.bool.injEq,Value.int.injEq,true_and])
 all_goals grind [J7,aU]
theorem vO (x:Pnt):PC Tryz.prog 127 [kN x] (fun r => r = iv (aP x)):=by
 refine aC Tryz.func127 Tryz.ntmps127 ?_
 repeat' (first|refine aD ?_|(refine aK ?_ ?_ <;> intro hc hq <;> try (exfalso;omega))|refine cC ?_|fail)
 all_goals (refine ⟨?_,rfl⟩; simp only [aO,AV.v.injEq,Value.bool.injEq,Value.int.injEq,true_and])
 all_goals grind [aP]
theorem kL (x:Pnt):PC Tryz.prog 128 [kN x] (fun r => r = bv (bO x)):=by
 refine aC Tryz.func128 Tryz.ntmps128 ?_
 repeat' (first|refine aD ?_|(refine bR ?_ ?_ <;> intro hg hq <;> try (exfalso;omega))|refine cC ?_|fail)
 all_goals (refine ⟨?_,rfl⟩; simp only [aO,AV.v.injEq,Value.bool.injEq,Value.int.injEq,true_and])
 all_goals grind [bO]
theorem mZ (x:Pnt) (h:aP x < 62):PC Tryz.prog 133 [kN x] (fun r => r = iv (gC x:Nat)):=by
 refine aC Tryz.func133 Tryz.ntmps133 ?_
 repeat' (first|(apply aF;first|(apply iC;rfl;rfl;infer_instance;omega;rfl;(case' kk => intro hsm))|(apply aA (k := 127);rfl;(apply vO);exact Pur.pf;rfl))|refine aD ?_|(refine aK ?_ ?_ <;> intro hc hq <;> try (exfalso;omega))|refine cC ?_|fail)
 all_goals (refine ⟨?_,rfl⟩; simp only [aO,AV.v.injEq,Value.bool.injEq,Value.int.injEq,true_and])
 all_goals (unfold gC)
 ·rw [if_pos (by omega)]
 ·rw [if_neg (by omega)]; rfl
theorem K9 (ts:List Int) (bd:List AL.Stmt) (pts:List Pnt) (h:ts.length ≤ 6):PC Tryz.prog 145 [aG ts bd pts] (fun r => r = iv ((2 ^ ts.length - 1:Nat):Int)):=by
 have h1 : 2 ^ ts.length ≤ 2 ^ 6 := Nat.pow_le_pow_right (by decide) h
 have h2 : 0 < 2 ^ ts.length := Nat.pow_pos (by decide)
 have h3 : 2 ^ (ts.length : Int).toNat ≤ 2 ^ 6 := h1
 have h4 : 2 ^ (ts.length : Int).toNat = 2 ^ ts.length := rfl
 refine aC Tryz.func145 Tryz.ntmps145 ?_
 repeat' (first|(apply aF;(apply iC;rfl;rfl;infer_instance;omega;rfl;(case' kk => intro hsm)))|refine aD ?_|refine cC ?_|fail)
 all_goals (refine ⟨?_,rfl⟩; simp only [aO,AV.v.injEq,Value.bool.injEq,Value.int.injEq,true_and])
 omega
def EA (xs : List Int) (v : Int) : Int := match xs.findIdx? (fun t => decide (t = v)) with | some i => i | none => -1
theorem IH (xs:List Int) (v:Int) (hl:xs.length ≤ 1048576):PC Tryz.prog 85 [sl cI xs,iv v] (fun r => r = iv (EA xs v)):=by
 refine aC Tryz.func85 Tryz.ntmps85 ?_
 repeat' (first|refine aD ?_|fail)
 refine aI (σ := Nat) [0,1,7] [] (fun k => [(8,iv (k : Int))]) (fun k => []) (fun k => k ≤ xs.length ∧ ∀ i,i < k → xs[i]! ≠ v) (fun k => xs.length - k) (0) ⟨by omega,by omega⟩ ?_
 intro k ⟨hk,hall⟩
 repeat' (first|refine aD ?_|(refine aK ?_ ?_ <;> intro hc hq <;> try (exfalso;omega))|refine cC ?_|fail)
 ·(refine ⟨?_, rfl⟩; simp only [aO, AV.v.injEq, Value.bool.injEq, Value.int.injEq, true_and])
  have hlt : k < xs.length := by omega
  have : xs.findIdx? (fun t => decide (t = v)) = some k := by
   rw [List.findIdx?_eq_some_iff_getElem]
   refine ⟨hlt,?_,fun j hj => ?_⟩
   ·rw [← a8 xs k hlt]; grind
   ·have := hall j hj;rw [a8 xs j (by omega)] at this;simpa using this
  simp only [EA,this]
 ·(refine aY (k + 1) (Le.renA []) ?_ ?_)
  ·grind
  ·omega
 ·(refine ⟨?_, rfl⟩; simp only [aO, AV.v.injEq, Value.bool.injEq, Value.int.injEq, true_and])
  have : xs.findIdx? (fun t => decide (t = v)) = none := by
   rw [List.findIdx?_eq_none_iff]
   intro x hx
   obtain ⟨i,hi,rfl⟩ := List.getElem_of_mem hx
   have := hall i (by omega);rw [a8 xs i hi] at this;simpa using this
  simp only [EA,this]
theorem Iu (xs:List Int) (v:Int):decide (0 ≤ EA xs v) = decide (v ∈ xs):=by
 unfold EA
 split
 ·rename_i i h
  obtain ⟨h1,h2,_⟩ := List.findIdx?_eq_some_iff_getElem.1 h
  simp only [decide_eq_true_eq] at h2
  have : v ∈ xs := by rw [← h2]; exact List.getElem_mem h1
  simp [this]
 ·rename_i h
  rw [List.findIdx?_eq_none_iff] at h
  have : v ∉ xs := fun hm => by have := h v hm;simp at this
  simp [this]
theorem lZ (xs:List Int) (v:Int) (hl:xs.length ≤ 1048576):PC Tryz.prog 48 [sl cI xs,iv v] (fun r => r = bv (decide (v ∈ xs))):=by
 refine aC Tryz.func48 Tryz.ntmps48 ?_
 repeat' (first|(apply aF;(apply aA (k := 85);rfl;(apply IH <;> (assumption));exact Pur.pf;rfl))|refine aD ?_|refine cC ?_|fail)
 (refine ⟨?_,rfl⟩; simp only [aO,AV.v.injEq,Value.bool.injEq,Value.int.injEq,true_and])
 exact Iu xs v
theorem Cn (ts:List Int) (bd:List AL.Stmt) (pts:List Pnt) (x:Pnt) (us:List Int) (h:ts.length ≤ 6) (hu:us.length ≤ 1000):PC Tryz.prog 115 [aG ts bd pts,kN x,sl cI us] (fun r => r = iv (wS ts x us:Nat)):=by
 refine aC Tryz.func115 Tryz.ntmps115 ?_
 repeat' (first|refine aD ?_|fail)
 refine aI (σ := Nat × Nat) [0,2,4,14] [0] (fun k => [(15,iv (k.1 : Int)),(7,iv (k.2 : Int))]) (fun k => []) (fun k => k.1 ≤ ts.length ∧ k.2 = dV (fun v => decide (aU ts x v ∈ us)) k.1) (fun k => ts.length - k.1) (0,0) ⟨by omega,rfl⟩ ?_
 rintro ⟨k,A⟩ ⟨hk,hA⟩
 dsimp only at hk hA ⊢
 have hsm : Sm A := hA ▸ c9 (by omega)
 repeat' (first|(apply aF;first|(apply iC;rfl;rfl;infer_instance;omega;rfl;(case' kk => intro hsm))|(first|(apply aA (k := 48);rfl;(apply lZ <;> (omega));exact Pur.pf;rfl)|(apply aA (k := 138);rfl;(apply Ll <;> (omega));exact Pur.pf;rfl)))|refine aD ?_|(refine aK ?_ ?_ <;> intro hc hq <;> try (exfalso;omega))|refine cC ?_|fail)
 ·(refine aY (k + 1, _) (Le.renA [(0, 0)]) ?_ ?_)
  ·dsimp only
   rw [hA]
   exact ⟨by omega,oJ _ _ (by simpa using hq)⟩
  ·dsimp only;omega
 ·(refine aY (k + 1, _) (Le.renA [(0, 0)]) ?_ ?_)
  ·dsimp only
   rw [hA]
   exact ⟨by omega,kD _ _ (by simpa using hq)⟩
  ·dsimp only;omega
 ·(refine ⟨?_, rfl⟩; simp only [aO, AV.v.injEq, Value.bool.injEq, Value.int.injEq, true_and])
  rw [hA,show k = ts.length by omega]; rfl
theorem uD (ts:List Int) (bd:List AL.Stmt) (pts:List Pnt) (x:Pnt) (h:ts.length ≤ 6):PC Tryz.prog 76 [aG ts bd pts,kN x] (fun r => r = iv (wS ts x [1,2,3]:Nat)):=by
 refine aC Tryz.func76 Tryz.ntmps76 ?_
 repeat' (first|(apply aF;first|(apply aL (t := _);rfl;rfl;rfl;(exact (rfl:_=some [_,_,_]));rfl;rfl)|(apply aA (k := 115);rfl;(apply Cn (us := [1,2,3]) <;> (first|assumption|decide));exact Pur.pf;rfl))|refine aD ?_|refine cC ?_|fail)
 (refine ⟨?_,rfl⟩; simp only [aO,AV.v.injEq,Value.bool.injEq,Value.int.injEq,true_and])
theorem oX (ts:List Int) (bd:List AL.Stmt) (pts:List Pnt) (x:Pnt) (h:ts.length ≤ 6):PC Tryz.prog 126 [aG ts bd pts,kN x] (fun r => r = iv (wS ts x [2]:Nat)):=by
 refine aC Tryz.func126 Tryz.ntmps126 ?_
 repeat' (first|(apply aF;first|(apply aL (t := _);rfl;rfl;rfl;exact (rfl:_=some [_]);rfl;rfl)|(apply aA (k := 115);rfl;(apply Cn (us := [2]) <;> (first|assumption|decide));exact Pur.pf;rfl))|refine aD ?_|refine cC ?_|fail)
 (refine ⟨?_,rfl⟩; simp only [aO,AV.v.injEq,Value.bool.injEq,Value.int.injEq,true_and])
theorem x6 (ts:List Int) (bd:List AL.Stmt) (pts:List Pnt) (i:Int) (A:Nat) (h:WG ts pts) (hi:0 ≤ i ∧ i < pts.length) (hA:Sm A):PC Tryz.prog 131 [aG ts bd pts,iv i,iv (A:Int)] (fun r => r = iv (fY ts pts[i.toNat]! A:Nat)):=by
 have htl := h.tl
 have hst := (h.set i.toNat (by omega)).1
 have hs1 : Sm (wS ts pts[i.toNat]! [2]) := c9 (by omega)
 have hs2 : Sm (gC pts[i.toNat]!) := pA (by omega)
 refine aC Tryz.func131 Tryz.ntmps131 ?_
 repeat' (first|(apply aF;(first|(apply aA (k := 126);rfl;(apply oX <;> (assumption));exact Pur.pf;rfl)|(apply aA (k := 133);rfl;(apply mZ <;> (omega));exact Pur.pf;rfl)))|refine aD ?_|refine bT ?_|refine cC ?_|fail)
 (refine ⟨?_,rfl⟩; simp only [aO,AV.v.injEq,Value.bool.injEq,Value.int.injEq,true_and])
 rfl
theorem Ac (ts:List Int) (bd:List AL.Stmt) (pts:List Pnt) (A:List Nat) (w:WG ts pts) (hA:oF ts pts A):PC Tryz.prog 130 [aG ts bd pts,iv 0,bv false,.clos (.func 131) [aG ts bd pts] []] (fun r => r = .imm pts.length (flat cN A)):=by
 have hpl := w.pl
 have hp0 := w.p0
 have htl := w.tl
 have fl := Lh w
 refine aC Tryz.func130 Tryz.ntmps130 ?_
 repeat' (first|refine aD ?_|fail)
 refine aI (σ := List Nat × Bool) [0,2,3,9] [] (fun s => [(11,bv s.2)]) (fun s => [(0,some (flat cN s.1))]) (fun s => SG pts (Ln ts pts) s.1 ∧ True ∧ (s.2 = false → jY l8 (fun i A => fY ts pts[i]! A) pts s.1)) (fun s => 2 * dZ (s.1.map (fun a => 2 ^ ts.length - a)) + s.2.toNat) (((List.replicate pts.length 0).set 0 0),true) ⟨by rw [EV (by rw [a8 _ _ (by simpa using hp0),List.getElem_replicate]) (by simpa using hp0)]; exact zU fun i hi => ⟨Nat.pow_pos (by decide),fun v h => by simp at h⟩,trivial,fun h => by cases h⟩ ?_
 rintro ⟨s,b⟩ ⟨hS,hE,hC⟩
 dsimp only at hS hE hC ⊢
 repeat' (first|refine aD ?_|(refine aK ?_ ?_ <;> intro hc hq <;> try (exfalso;omega))|fail)
 ·refine aI (σ := Nat × (List Nat × Bool)) [0, 2, 3, 9, 43, 44] [] (fun k => [(45, iv (k.1 : Int)), (11, bv k.2.2)]) (fun k => [(0, some (flat cN k.2.1))]) (fun k => k.1 ≤ pts.length ∧ k.2 = (List.range k.1).foldl (wC l8 (fun i A => fY ts pts[i]! A) pts) (s, false) ∧ SG pts (Ln ts pts) k.2.1 ∧ True) (fun k => pts.length - k.1) (0, (s, false)) ⟨by omega, rfl, hS, hE⟩ ?_
  rintro ⟨k,u,c⟩ ⟨hk,hf,hS2,hE2⟩
  dsimp only at hk hf hS2 hE2 ⊢
  have hsm : ∀ z,Sm u[z]! := pU hS2 (fun i A h => h.1) htl
  have hul := hS2.1
  repeat' (first|(apply aF;(apply jJ;rfl;rfl;infer_instance;rfl;(apply x6 <;> (first|assumption|omega|infer_instance));exact Pur.pf;rfl))|refine aD ?_|(refine aK ?_ ?_ <;> intro hc hq <;> try (exfalso;omega))|fail)
  ·have hkn : k < pts.length := by omega
   have hv := o7 w hkn (hS2.2 k hkn).1
   have hvs : Sm (fY ts pts[k]! u[k]!) := ⟨Nat.lt_of_lt_of_le hv (Nat.pow_le_pow_right (by decide) (by omega))⟩
   have hvs' : Sm (fY ts pts[(k : Int).toNat]! u[k]!) := hvs
   have hnl := w.nl k hkn
   refine aI (σ := Nat × (List Nat × Bool)) [0,2,3,9,14,43,44,45,58,59] [] (fun j => [(60,iv (j.1 : Int)),(11,bv j.2.2)]) (fun j => [(0,some (flat cN j.2.1))]) (fun j => j.1 ≤ pts[k]!.next.length ∧ j.2 = ((r8 pts k).take j.1).foldl (j5 l8 (fY ts pts[k]! u[k]!)) (u,c) ∧ SG pts (Ln ts pts) j.2.1 ∧ True) (fun j => pts[k]!.next.length - j.1) (0,(u,c)) ⟨by omega,rfl,hS2,hE2⟩ ?_
   rintro ⟨j,u2,c2⟩ ⟨hj,hf2,hS3,hE3⟩
   dsimp only at hj hf2 hS3 hE3 ⊢
   have hsm2 : ∀ z,Sm u2[z]! := pU hS3 (fun i A h => h.1) htl
   have hul2 := hS3.1
   have hz : j < pts[k]!.next.length → 0 ≤ pts[k]!.next[j]! ∧ pts[k]!.next[j]! < pts.length := fun h => w.nx k hkn _ (aZ _ _ h)
   repeat' (first|refine aD ?_|(refine aK ?_ ?_ <;> intro hc hq <;> try (exfalso;omega))|fail)
   ·have hzz := hz (by omega)
    have hed : bZ pts k (pts[k]!.next[j]!).toNat := ⟨hkn,by rw [Int.toNat_of_nonneg hzz.1]; exact aZ _ _ (by omega)⟩
    have hne : l8 u2[(pts[k]!.next[j]!).toNat]! (fY ts pts[k]! u[k]!) ≠ u2[(pts[k]!.next[j]!).toNat]! := fun h => hq (congrArg Int.ofNat h)
    (refine aY (j + 1,(_,true)) (Le.renA [(0,0)]) ?_ ?_)
    ·dsimp only
     refine ⟨by omega,?_,wG fl w (hS2.2 k hkn) hed hS3,trivial⟩
     rw [gP (by omega),← hf2,u7 hne]; rfl
    ·dsimp only;omega
   ·have hzz := hz (by omega)
    have hne : l8 u2[(pts[k]!.next[j]!).toNat]! (fY ts pts[k]! u[k]!) = u2[(pts[k]!.next[j]!).toNat]! := Int.ofNat.inj hq
    (refine aY (j + 1,(u2,c2)) (Le.renA [(0,0)]) ?_ ?_)
    ·dsimp only
     refine ⟨by omega,?_,hS3,hE3⟩
     rw [gP (by omega),← hf2,wU hne]
    ·dsimp only;omega
   ·(refine aY (k + 1, (u2, c2)) (Le.renA [(0, 0)]) ?_ ?_)
    ·dsimp only
     refine ⟨by omega,?_,hS3,hE3⟩
     rw [c5,← hf,hf2,List.take_of_length_le (by rw [jX]; omega)]; rfl
    ·dsimp only;omega
  ·have law := rC w fl s false hS
   have hfull : (u, c) = vS l8 (fun i A => fY ts pts[i]! A) pts (s, false) := by
    rw [hf,show k = pts.length by omega]; rfl
   rw [show vS (fun a s => l8 a s) (fun i A => fY ts pts[i]! A) pts (s,false) = (u,c) from hfull.symm] at law
   (refine aY (u,c) (Le.renA [(0,0)]) ?_ ?_)
   ·dsimp only
    refine ⟨hS2,hE2,fun h => ?_⟩
    rcases law.2 with ⟨e1,e2⟩ | ⟨e1,_⟩
    ·cases e1;exact e2
    ·dsimp only at e1;rw [h] at e1;cases e1
   ·dsimp only
    have hb : b = true := by assumption
    subst hb
    rcases law.2 with ⟨e1,e2⟩ | ⟨e1,e2⟩
    ·cases e1;simp
    ·dsimp only at e1 e2;subst e1;omega
 ·have hb : b = false := by assumption
  refine aT (Le.frzD (d := 8) (i := 0) rfl rfl) ?_
  refine aE rfl ⟨?_,(by (exact a7 _ _))⟩
  simp only [aO]
  rw [CH hA (Fs w hS (hC hb))]
theorem z7 (ts:List Int) (bd:List AL.Stmt) (pts:List Pnt) (A:List Nat) (w:WG ts pts) (hA:oR ts pts A):PC Tryz.prog 130 [aG ts bd pts,iv 0,bv true,.clos (.func 131) [aG ts bd pts] []] (fun r => r = .imm pts.length (flat cN A)):=by
 have hpl := w.pl
 have hp0 := w.p0
 have htl := w.tl
 have fl := Lc w
 refine aC Tryz.func130 Tryz.ntmps130 ?_
 repeat' (first|refine aD ?_|fail)
 refine aI (σ := Nat × List Nat) [0,1,2,3,9,26] [] (fun k => [(27,iv (k.1 : Int))]) (fun k => [(0,some (flat cN k.2))]) (fun k => k.1 ≤ pts.length ∧ k.2 = List.replicate k.1 (2 ^ ts.length - 1) ++ List.replicate (pts.length - k.1) 0) (fun k => pts.length - k.1) (0,List.replicate pts.length 0) ⟨by omega,by simp⟩ ?_
 rintro ⟨k0,u0⟩ ⟨hk0,hu0⟩
 dsimp only at hk0 hu0 ⊢
 have hul0 : u0.length = pts.length := by rw [hu0]; simp;omega
 repeat' (first|(apply aF;(apply aA (k := 145);rfl;(apply K9 <;> (assumption));exact Pur.pf;rfl))|refine aD ?_|(refine aK ?_ ?_ <;> intro hc hq <;> try (exfalso;omega))|fail)
 ·(refine aY (k0 + 1, _) (Le.renA [(0, 0)]) ?_ ?_)
  ·dsimp only
   exact ⟨by omega,by rw [hu0]; exact G9 (by omega)⟩
  ·dsimp only;omega
 have hk1 : k0 = pts.length := by omega
 subst hk1
 rw [Nat.sub_self,List.replicate_zero,List.append_nil] at hu0
 refine aI (σ := List Nat × Bool) [0,2,3,9] [] (fun s => [(11,bv s.2)]) (fun s => [(0,some (flat cN s.1))]) (fun s => SG pts (KK ts pts) s.1 ∧ s.1[0]! = 0 ∧ (s.2 = false → jY JS (fun i A => fY ts pts[i]! A) pts s.1)) (fun s => 2 * dZ (s.1.map (fun a => a)) + s.2.toNat) ((u0.set 0 0),true) ⟨(Ev w hu0).1,(Ev w hu0).2,fun h => by cases h⟩ ?_
 rintro ⟨s,b⟩ ⟨hS,hE,hC⟩
 dsimp only at hS hE hC ⊢
 repeat' (first|refine aD ?_|(refine aK ?_ ?_ <;> intro hc hq <;> try (exfalso;omega))|fail)
 ·refine aI (σ := Nat × (List Nat × Bool)) [0, 2, 3, 9, 43, 44] [] (fun k => [(45, iv (k.1 : Int)), (11, bv k.2.2)]) (fun k => [(0, some (flat cN k.2.1))]) (fun k => k.1 ≤ pts.length ∧ k.2 = (List.range k.1).foldl (wC JS (fun i A => fY ts pts[i]! A) pts) (s, false) ∧ SG pts (KK ts pts) k.2.1 ∧ k.2.1[0]! = 0) (fun k => pts.length - k.1) (0, (s, false)) ⟨by omega, rfl, hS, hE⟩ ?_
  rintro ⟨k,u,c⟩ ⟨hk,hf,hS2,hE2⟩
  dsimp only at hk hf hS2 hE2 ⊢
  have hsm : ∀ z,Sm u[z]! := pU hS2 (fun i A h => h.1) htl
  have hul := hS2.1
  repeat' (first|(apply aF;(apply jJ;rfl;rfl;infer_instance;rfl;(apply x6 <;> (first|assumption|omega|infer_instance));exact Pur.pf;rfl))|refine aD ?_|(refine aK ?_ ?_ <;> intro hc hq <;> try (exfalso;omega))|fail)
  ·have hkn : k < pts.length := by omega
   have hv := o7 w hkn (hS2.2 k hkn).1
   have hvs : Sm (fY ts pts[k]! u[k]!) := ⟨Nat.lt_of_lt_of_le hv (Nat.pow_le_pow_right (by decide) (by omega))⟩
   have hvs' : Sm (fY ts pts[(k : Int).toNat]! u[k]!) := hvs
   have hnl := w.nl k hkn
   refine aI (σ := Nat × (List Nat × Bool)) [0,2,3,9,14,43,44,45,58,59] [] (fun j => [(60,iv (j.1 : Int)),(11,bv j.2.2)]) (fun j => [(0,some (flat cN j.2.1))]) (fun j => j.1 ≤ pts[k]!.next.length ∧ j.2 = ((r8 pts k).take j.1).foldl (j5 JS (fY ts pts[k]! u[k]!)) (u,c) ∧ SG pts (KK ts pts) j.2.1 ∧ j.2.1[0]! = 0) (fun j => pts[k]!.next.length - j.1) (0,(u,c)) ⟨by omega,rfl,hS2,hE2⟩ ?_
   rintro ⟨j,u2,c2⟩ ⟨hj,hf2,hS3,hE3⟩
   dsimp only at hj hf2 hS3 hE3 ⊢
   have hsm2 : ∀ z,Sm u2[z]! := pU hS3 (fun i A h => h.1) htl
   have hul2 := hS3.1
   have hz : j < pts[k]!.next.length → 0 ≤ pts[k]!.next[j]! ∧ pts[k]!.next[j]! < pts.length := fun h => w.nx k hkn _ (aZ _ _ h)
   repeat' (first|refine aD ?_|(refine aK ?_ ?_ <;> intro hc hq <;> try (exfalso;omega))|fail)
   ·have hzz := hz (by omega)
    have hed : bZ pts k (pts[k]!.next[j]!).toNat := ⟨hkn,by rw [Int.toNat_of_nonneg hzz.1]; exact aZ _ _ (by omega)⟩
    have hne : JS u2[(pts[k]!.next[j]!).toNat]! (fY ts pts[k]! u[k]!) ≠ u2[(pts[k]!.next[j]!).toNat]! := fun h => hq (congrArg Int.ofNat h)
    (refine aY (j + 1,(_,true)) (Le.renA [(0,0)]) ?_ ?_)
    ·dsimp only
     refine ⟨by omega,?_,wG fl w (hS2.2 k hkn) hed hS3,(by rw [cM _ _ _ _ (by rw [hS3.1]; exact cO w hed)]; split <;> first|exact hE3|(rename_i q;rw [← q,hE3]; exact Nat.zero_and _))⟩
     rw [gP (by omega),← hf2,u7 hne]; rfl
    ·dsimp only;omega
   ·have hzz := hz (by omega)
    have hne : JS u2[(pts[k]!.next[j]!).toNat]! (fY ts pts[k]! u[k]!) = u2[(pts[k]!.next[j]!).toNat]! := Int.ofNat.inj hq
    (refine aY (j + 1,(u2,c2)) (Le.renA [(0,0)]) ?_ ?_)
    ·dsimp only
     refine ⟨by omega,?_,hS3,hE3⟩
     rw [gP (by omega),← hf2,wU hne]
    ·dsimp only;omega
   ·(refine aY (k + 1, (u2, c2)) (Le.renA [(0, 0)]) ?_ ?_)
    ·dsimp only
     refine ⟨by omega,?_,hS3,hE3⟩
     rw [c5,← hf,hf2,List.take_of_length_le (by rw [jX]; omega)]; rfl
    ·dsimp only;omega
  ·have law := rC w fl s false hS
   have hfull : (u, c) = vS JS (fun i A => fY ts pts[i]! A) pts (s, false) := by
    rw [hf,show k = pts.length by omega]; rfl
   rw [show vS (fun a s => JS a s) (fun i A => fY ts pts[i]! A) pts (s,false) = (u,c) from hfull.symm] at law
   (refine aY (u,c) (Le.renA [(0,0)]) ?_ ?_)
   ·dsimp only
    refine ⟨hS2,hE2,fun h => ?_⟩
    rcases law.2 with ⟨e1,e2⟩ | ⟨e1,_⟩
    ·cases e1;exact e2
    ·dsimp only at e1;rw [h] at e1;cases e1
   ·dsimp only
    have hb : b = true := by assumption
    subst hb
    rcases law.2 with ⟨e1,e2⟩ | ⟨e1,e2⟩
    ·cases e1;simp
    ·dsimp only at e1 e2;subst e1;omega
 ·have hb : b = false := by assumption
  refine aT (Le.frzD (d := 8) (i := 0) rfl rfl) ?_
  refine aE rfl ⟨?_,(by (exact a7 _ _))⟩
  simp only [aO]
  rw [DU hA (Fi w hS hE (hC hb))]
theorem EI (ts:List Int) (bd:List AL.Stmt) (pts:List Pnt) (A:List Nat) (w:WG ts pts) (hA:oR ts pts A):PC Tryz.prog 100 [aG ts bd pts,iv 0] (fun r => r = .imm pts.length (flat cN A)):=by
 refine aC Tryz.func100 Tryz.ntmps100 ?_
 repeat' (first|(apply aF;(apply aA (k := 130);rfl;exact z7 ts bd pts A w hA;exact Pur.pf;rfl))|refine aD ?_|refine cC ?_|fail)
 exact ⟨rfl,(by (exact a7 _ _))⟩
theorem Ix (ts:List Int) (bd:List AL.Stmt) (pts:List Pnt) (A:List Nat) (w:WG ts pts) (hA:oF ts pts A):PC Tryz.prog 101 [aG ts bd pts] (fun r => r = .imm pts.length (flat cN A)):=by
 refine aC Tryz.func101 Tryz.ntmps101 ?_
 repeat' (first|(apply aF;(apply aA (k := 130);rfl;exact Ac ts bd pts A w hA;exact Pur.pf;rfl))|refine aD ?_|refine cC ?_|fail)
 exact ⟨rfl,(by (exact a7 _ _))⟩
theorem BF (ts:List Int) (bd:List AL.Stmt) (pts:List Pnt) (n:Nat) (B:List Nat) (i:Int) (w:WG ts pts) (hn:n = B.length) (hB:B.length = pts.length) (hs:∀ z:Nat,Sm B[z]!) (hi:0 ≤ i ∧ i < pts.length):PC Tryz.prog 107 [aG ts bd pts,.imm n (flat cN B),iv i] (fun r => r = iv (Iv pts B i.toNat:Nat)):=by
 subst hn
 have hin : i.toNat < pts.length := by omega
 have hnl := w.nl _ hin
 have hpl := w.pl
 refine aC Tryz.func107 Tryz.ntmps107 ?_
 repeat' (first|refine aD ?_|fail)
 refine aI (σ := Nat × Nat) [1,17,18] [] (fun k => [(19,iv (k.1 : Int)),(7,iv (k.2 : Int))]) (fun k => []) (fun k => k.1 ≤ pts[i.toNat]!.next.length ∧ k.2 = ((r8 pts i.toNat).take k.1).foldl (fun a k => l8 a B[k]!) 0 ∧ Sm k.2) (fun k => pts[i.toNat]!.next.length - k.1) (0,0) ⟨by omega,rfl,inferInstance⟩ ?_
 rintro ⟨k,a⟩ ⟨hk,ha,hsa⟩
 dsimp only at hk ha hsa ⊢
 have hz : k < pts[i.toNat]!.next.length → 0 ≤ pts[i.toNat]!.next[k]! ∧ pts[i.toNat]!.next[k]! < pts.length := fun h => w.nx _ hin _ (aZ _ _ h)
 repeat' (first|refine aD ?_|(refine aK ?_ ?_ <;> intro hc hq <;> try (exfalso;omega))|refine cC ?_|fail)
 ·(refine aY (k + 1, _) (Le.renA []) ?_ ?_)
  ·dsimp only
   refine ⟨by omega,?_,inferInstance⟩
   rw [cV _ _ _ _ (by rw [jX]; omega),vD (by omega),← ha]
  ·dsimp only;omega
 ·(refine ⟨?_, rfl⟩; simp only [aO, AV.v.injEq, Value.bool.injEq, Value.int.injEq, true_and])
  rw [ha,List.take_of_length_le (by rw [jX]; omega)]; rfl
theorem Gz (ts:List Int) (bd:List AL.Stmt) (pts:List Pnt) (A:List Nat) (w:WG ts pts) (hA:pO ts pts A):PC Tryz.prog 106 [aG ts bd pts] (fun r => r = .imm pts.length (flat cN A)):=by
 have hpl := w.pl
 have hp0 := w.p0
 have htl := w.tl
 refine aC Tryz.func106 Tryz.ntmps106 ?_
 repeat' (first|refine aD ?_|fail)
 refine aI (σ := List Nat × Bool) [0,3] [] (fun s => [(4,bv s.2)]) (fun s => [(0,some (flat cN s.1))]) (fun s => SN ts pts s.1 ∧ (s.2 = false → ∀ i,i < pts.length → n5 ts pts s.1 i = s.1[i]!)) (fun s => 2 * dZ (s.1.map (fun a => 2 ^ ts.length - a)) + s.2.toNat) (List.replicate pts.length 0,true) ⟨Jp,fun h => by cases h⟩ ?_
 rintro ⟨s,b⟩ ⟨hS,hC⟩
 dsimp only at hS hC ⊢
 repeat' (first|refine aD ?_|(refine aK ?_ ?_ <;> intro hc hq <;> try (exfalso;omega))|fail)
 ·refine aI (σ := Nat × Int × (List Nat × Bool)) [0, 3] [] (fun k => [(5, iv k.2.1), (4, bv k.2.2.2)]) (fun k => [(0, some (flat cN k.2.2.1))]) (fun k => k.1 ≤ pts.length ∧ k.2.1 = (pts.length : Int) - 1 - k.1 ∧ k.2.2 = ((List.range pts.length).reverse.take k.1).foldl (j7 ts pts) (s, false) ∧ SN ts pts k.2.2.1) (fun k => pts.length - k.1) (0, (pts.length : Int) - 1, (s, false)) ⟨by omega, by simp, rfl, hS⟩ ?_
  rintro ⟨k,z,u,c⟩ ⟨hk,hz,hf,hS2⟩
  dsimp only at hk hz hf hS2 ⊢
  have hsm : ∀ z : Nat,Sm u[z]! := pU hS2.1 (fun i A h => h.1) htl
  have hul := hS2.1.1
  have hst := fun h : z.toNat < pts.length => (w.set z.toNat h).1
  have hst2 : aP pts[z.toNat]! < 62 := by
   by_cases h : z.toNat < pts.length
   ·have := hst h;omega
   ·rw [getElem!_neg pts z.toNat h]; decide
  have hs1 : Sm (wS ts pts[z.toNat]! [1,2,3]) := c9 (by omega)
  have hs2 : Sm (gC pts[z.toNat]!) := pA (by omega)
  have hs3 : Sm (Iv pts u z.toNat) := by
   unfold Iv
   have : ∀ (L : List Nat) (a : Nat), Sm a → Sm (L.foldl (fun a k => a ||| u[k]!) a) := by
    intro L;induction L with
    | nil => exact fun a h => h
    | cons x L ih => exact fun a h => ih _ (inferInstance : Sm (a ||| u[x]!))
   exact this _ _ inferInstance
  have hlaw := fun h : z.toNat < pts.length => tT w u c z.toNat h hS2
  repeat' (first|(apply aF;(first|(apply aA (k := 76);rfl;(apply uD <;> (assumption));exact Pur.pf;rfl)|(apply aA (k := 133);rfl;(apply mZ <;> (assumption));exact Pur.pf;rfl)|(apply Fp (k := 107);(case ha => rfl);(case hl => (repeat' (first|exact DD|apply Av|exact IS|exact Dc rfl inferInstance|exact AB inferInstance)));(case h => (apply BF <;> (first|assumption|omega)));(case hfr|hN => rfl);(case hmd => infer_instance))))|refine aD ?_|(refine aK ?_ ?_ <;> intro hc hq <;> try (exfalso;omega))|refine bT ?_|fail)
  ·have hzn : z.toNat < pts.length := by omega
   have hne : n5 ts pts u z.toNat ≠ u[z.toNat]! := fun h => hq (congrArg Int.ofNat h)
   have hl := hlaw hzn
   rw [BT hne] at hl
   have hrg : (List.range pts.length).reverse[k]! = z.toNat := by rw [zD (by omega)]; omega
   (refine aY (k + 1,_,(_,true)) (Le.renA [(0,0)]) ?_ ?_)
   ·dsimp only
    refine ⟨by omega,by omega,?_,hl.1⟩
    rw [cV _ _ _ _ (by simp;omega),← hf,hrg,BT hne]; rfl
   ·dsimp only;omega
  ·have hzn : z.toNat < pts.length := by omega
   have hne : n5 ts pts u z.toNat = u[z.toNat]! := Int.ofNat.inj hq
   have hrg : (List.range pts.length).reverse[k]! = z.toNat := by rw [zD (by omega)]; omega
   (refine aY (k + 1,_,(u,c)) (Le.renA [(0,0)]) ?_ ?_)
   ·dsimp only
    refine ⟨by omega,by omega,?_,hS2⟩
    rw [cV _ _ _ _ (by simp;omega),← hf,hrg,Hc hne]
   ·dsimp only;omega
  ·have law := CB w s false hS
   have hfull : (u, c) = xU ts pts (s, false) := by
    rw [hf,List.take_of_length_le (by simp;omega)]; rfl
   rw [← hfull] at law
   (refine aY (u,c) (Le.renA [(0,0)]) ?_ ?_)
   ·dsimp only
    refine ⟨hS2,fun h => ?_⟩
    rcases law.2 with ⟨e1,e2⟩ | ⟨e1,_⟩
    ·cases e1;exact e2
    ·dsimp only at e1;rw [h] at e1;cases e1
   ·dsimp only
    have hb : b = true := by assumption
    subst hb
    rcases law.2 with ⟨e1,e2⟩ | ⟨e1,e2⟩
    ·cases e1;simp
    ·dsimp only at e1 e2;subst e1;omega
 ·have hb : b = false := by assumption
  refine aT (Le.frzD (d := 2) (i := 0) rfl rfl) ?_
  refine aE rfl ⟨?_,(by (exact a7 _ _))⟩
  simp only [aO]
  rw [CQ hA (E3 w hS (hC hb))]
theorem y0 (ts:List Int) (bd:List AL.Stmt) (pts:List Pnt) (B A:List Nat) (w:WG ts pts) (hB:pO ts pts B) (hA:oH ts pts A):PC Tryz.prog 63 [aG ts bd pts] (fun r => r = .imm pts.length (flat cN A)):=by
 have hpl := w.pl
 have htl := w.tl
 have hBl := hB.1
 have hsm : ∀ z : Nat, Sm B[z]! := by
  intro z
  by_cases hz : z < pts.length
  ·refine ⟨Nat.lt_of_lt_of_le (Nat.lt_pow_two_of_testBit _ (n := 6) fun v hv => ?_) (by decide)⟩
   cases hq : B[z]!.testBit v with
   | false => rfl
   | true => have := oM w ((hB.2 z hz v).1 hq);dsimp only at this;omega
  ·rw [getElem!_neg B z (by rw [hBl]; exact hz)]; exact ⟨by decide⟩
 refine aC Tryz.func63 Tryz.ntmps63 ?_
 repeat' (first|(apply aF;(apply aA (k := 106);rfl;(apply Gz <;> (assumption));exact Pur.pf;rfl))|refine aD ?_|fail)
 refine AW.le ?_ (Le.nilOwn (d := 4) 1 rfl (by decide))
 refine aI (σ := Nat × List Nat) [0,3,12] [] (fun k => [(13,iv (k.1 : Int)),(4,.own 0 0 k.1 1)]) (fun k => [(0,some (flat cN k.2))]) (fun k => k.1 ≤ pts.length ∧ k.2 = (List.range k.1).map (Iv pts B)) (fun k => pts.length - k.1) (0,[]) ⟨by omega,rfl⟩ ?_
 rintro ⟨k,u⟩ ⟨hk,hu⟩
 dsimp only at hk hu ⊢
 have hul : u.length = k := by rw [hu]; simp
 repeat' (first|(apply aF;first|(apply aL (t := _);rfl;rfl;rfl;exact (rfl:_=some [_]);rfl;rfl)|(apply aA (k := 107);rfl;(apply BF <;> (first|assumption|omega));exact Pur.pf;rfl))|refine aD ?_|(refine aK ?_ ?_ <;> intro hc hq <;> try (exfalso;omega))|fail)
 ·(refine aY (k + 1, _) (Le.renA [(0, 2)]) ?_ ?_)
  ·dsimp only
   refine ⟨by omega,?_⟩
   rw [hu,List.range_succ,List.map_append]; rfl
  ·dsimp only;omega
 ·refine aT (Le.frzD (d := 2) (i := 0) rfl rfl) ?_
  refine aE rfl ⟨?_,(by (exact a7 _ _))⟩
  simp only [aO]
  have hkn : k = pts.length := by omega
  subst hkn
  rw [tZ hA (x4 w hB),hu]
theorem vG (A:Nat) (hA:Sm A):PC Tryz.prog 75 [iv (A:Int)] (fun r => r = sl cI (aX A)):=by
 refine aC Tryz.func75 Tryz.ntmps75 ?_
 repeat' (first|refine aD ?_|fail)
 refine AW.le ?_ (Le.nilOwn (d := 3) 1 rfl (by decide))
 refine aI (σ := Nat × List Int × Nat) [0] [] (fun k => [(4,iv (k.1 : Int)),(3,.own 0 0 k.2.2 1)]) (fun k => [(0,some (flat cI k.2.1))]) (fun k => k.1 ≤ 62 ∧ k.2.1 = ((List.range k.1).filter (A.testBit ·)).map (fun v : Nat => (v : Int)) ∧ k.2.2 = k.2.1.length ∧ k.2.2 ≤ k.1) (fun k => 62 - k.1) (0,[],0) ⟨by omega,rfl,rfl,Nat.le_refl _⟩ ?_
 rintro ⟨k,u,m⟩ ⟨hk,hu,hm,hmk⟩
 dsimp only at hk hu hm hmk ⊢
 repeat' (first|(apply aF;(apply aL (t := _);rfl;rfl;rfl;exact (rfl:_=some [_]);rfl;rfl))|refine aD ?_|(refine aK ?_ ?_ <;> intro hc hq <;> try (exfalso;omega))|fail)
 ·have hlt := Cs hA (show 0 < ((A >>> k : Nat) : Int) by assumption)
  (refine aY (k + 1,_,_) (Le.renA [(0,2)]) ?_ ?_)
  ·dsimp only
   exact ⟨by omega,tE hq hu,by simp;omega,by omega⟩
  ·dsimp only;omega
 ·have hlt := Cs hA (show 0 < ((A >>> k : Nat) : Int) by assumption)
  (refine aY (k + 1,u,m) (Le.renA [(0,0)]) ?_ ?_)
  ·dsimp only
   exact ⟨by omega,uB hq hu,hm,by omega⟩
  ·dsimp only;omega
 ·(refine aT (Le.frzD (d := 2) (i := 0) rfl rfl) ?_; refine aE rfl ?_)
  refine ⟨?_,(by (exact a7 _ _))⟩
  simp only [aO,sl]
  rw [nV (k := k) (fun v hv => FX hq v hv) (by omega) hA,← hu,← hm]
theorem qQ (A:Nat) (hA:Sm A):PC Tryz.prog 103 [.v (.int .u64 (A:Int))] (fun r => r = sl cI (aX A)):=by
 refine aC Tryz.func103 Tryz.ntmps103 ?_
 repeat' (first|refine aD ?_|fail)
 refine AW.le ?_ (Le.nilOwn (d := 3) 1 rfl (by decide))
 refine aI (σ := Nat × List Int × Nat) [0] [] (fun k => [(5,iv (k.1 : Int)),(3,.own 0 0 k.2.2 1)]) (fun k => [(0,some (flat cI k.2.1))]) (fun k => k.1 ≤ 64 ∧ k.2.1 = ((List.range k.1).filter (A.testBit ·)).map (fun v : Nat => (v : Int)) ∧ k.2.2 = k.2.1.length ∧ k.2.2 ≤ k.1) (fun k => 64 - k.1) (0,[],0) ⟨by omega,rfl,rfl,Nat.le_refl _⟩ ?_
 rintro ⟨k,u,m⟩ ⟨hk,hu,hm,hmk⟩
 dsimp only at hk hu hm hmk ⊢
 repeat' (first|(apply aF;(apply aL (t := _);rfl;rfl;rfl;exact (rfl:_=some [_]);rfl;rfl))|refine aD ?_|(refine aK ?_ ?_ <;> intro hc hq <;> try (exfalso;omega))|fail)
 ·(refine aY (k + 1, _, _) (Le.renA [(0, 2)]) ?_ ?_)
  ·dsimp only
   exact ⟨by omega,tE hq hu,by simp;omega,by omega⟩
  ·dsimp only;omega
 ·(refine aY (k + 1, u, m) (Le.renA [(0, 0)]) ?_ ?_)
  ·dsimp only
   exact ⟨by omega,uB hq hu,hm,by omega⟩
  ·dsimp only;omega
 ·(refine aT (Le.frzD (d := 2) (i := 0) rfl rfl) ?_; refine aE rfl ?_)
  refine ⟨?_,(by (exact a7 _ _))⟩
  simp only [aO,sl]
  rw [nV (k := k) (fun v hv => Nat.testBit_lt_two_pow (Nat.lt_of_lt_of_le hA.pf (Nat.pow_le_pow_right (by decide) (by omega)))) (by omega) hA,← hu,← hm]
theorem zL (ts:List Int) (bd:List AL.Stmt) (pts:List Pnt) (V:Nat) (w:WG ts pts) (hV:Sm V):PC Tryz.prog 132 [aG ts bd pts,iv (V:Int)] (fun r => r = .v (.int .u64 (oT pts V:Nat))):=by
 have hpl := w.pl
 have htl := w.tl
 refine aC Tryz.func132 Tryz.ntmps132 ?_
 repeat' (first|refine aD ?_|fail)
 refine aI (σ := Nat × Nat) [1,11,12] [] (fun k => [(13,iv (k.1 : Int)),(5,.v (.int .u64 (k.2 : Int)))]) (fun k => []) (fun k => k.1 ≤ pts.length ∧ k.2 = dV (fun l => bO pts[l]! && V.testBit (pts[l]!.y.toNat)) k.1) (fun k => pts.length - k.1) (0,0) ⟨by omega,rfl⟩ ?_
 rintro ⟨k,A⟩ ⟨hk,hA⟩
 dsimp only at hk hA ⊢
 have hsm : Sm A := hA ▸ c9 (by omega)
 cases hln : bO pts[k]!
 ·repeat' (first | (apply aF; (apply aA (k := 128);rfl;(apply kL);exact Pur.pf;rfl)) | refine aD ?_ | (refine aK ?_ ?_ <;> intro hc hq <;> try (exfalso; omega)) | refine cC ?_|fail)
  ·(refine aY (k + 1, A) (Le.renA []) ?_ ?_)
   ·dsimp only
    exact ⟨by omega,by rw [hA]; exact kD _ _ (by rw [hln]; rfl)⟩
   ·dsimp only;omega
  ·(refine ⟨?_, rfl⟩; simp only [aO, AV.v.injEq, Value.bool.injEq, Value.int.injEq, true_and])
   rw [hA,show k = pts.length by omega]; rfl
 ·have hy := fun (h : k < pts.length) => nW w h hln
  repeat' (first|(apply aF;first|(apply iC;rfl;rfl;infer_instance;omega;rfl;(case' kk => intro hsm))|(apply aA (k := 128);rfl;(apply kL);exact Pur.pf;rfl))|refine aD ?_|(refine aK ?_ ?_ <;> intro hc hq <;> try (exfalso;omega))|refine cC ?_|fail)
  ·(refine aY (k + 1, _) (Le.renA []) ?_ ?_)
   ·dsimp only
    exact ⟨by omega,by rw [hA]; exact oJ _ _ (by rw [hln,Bool.true_and]; exact (kQ _ _).1 hq)⟩
   ·dsimp only;omega
  ·(refine aY (k + 1, A) (Le.renA []) ?_ ?_)
   ·dsimp only
    exact ⟨by omega,by rw [hA]; exact kD _ _ (by rw [hln,Bool.true_and]; cases hb : V.testBit (pts[k]!.y.toNat) with|false => rfl|true => exact absurd ((kQ _ _).2 hb) hq)⟩
   ·dsimp only;omega
  ·(refine ⟨?_, rfl⟩; simp only [aO, AV.v.injEq, Value.bool.injEq, Value.int.injEq, true_and])
   rw [hA,show k = pts.length by omega]; rfl
theorem Gb (ts:List Int) (bd:List AL.Stmt) (pts:List Pnt) (A:List Nat) (w:WG ts pts) (hA:oG ts pts A):PC Tryz.prog 102 [aG ts bd pts] (fun r => r = .imm pts.length (flat cW A)):=by
 have hpl := w.pl
 have hp0 := w.p0
 have htl := w.tl
 have fl := KQ w
 refine aC Tryz.func102 Tryz.ntmps102 ?_
 repeat' (first|refine aD ?_|fail)
 refine aI (σ := List Nat × Bool) [0,3] [] (fun s => [(4,bv s.2)]) (fun s => [(0,some (flat cW s.1))]) (fun s => SG pts (Lt ts pts) s.1 ∧ (s.2 = false → jY l8 (vZ ts pts) pts s.1)) (fun s => 2 * dZ (s.1.map (fun a => 2 ^ pts.length - a)) + s.2.toNat) (List.replicate pts.length 0,true) ⟨zU fun i hi => ⟨Nat.pow_pos (by decide),fun v h => by simp at h⟩,fun h => by cases h⟩ ?_
 rintro ⟨s,b⟩ ⟨hS,hC⟩
 dsimp only at hS hC ⊢
 repeat' (first|refine aD ?_|(refine aK ?_ ?_ <;> intro hc hq <;> try (exfalso;omega))|fail)
 ·refine aI (σ := Nat × (List Nat × Bool)) [0, 3, 20, 21] [] (fun k => [(22, iv (k.1 : Int)), (4, bv k.2.2)]) (fun k => [(0, some (flat cW k.2.1))]) (fun k => k.1 ≤ pts.length ∧ k.2 = (List.range k.1).foldl (wC l8 (vZ ts pts) pts) (s, false) ∧ SG pts (Lt ts pts) k.2.1) (fun k => pts.length - k.1) (0, (s, false)) ⟨by omega, rfl, hS⟩ ?_
  rintro ⟨k,u,c⟩ ⟨hk,hf,hS2⟩
  dsimp only at hk hf hS2 ⊢
  have hul := hS2.1
  by_cases hkn : k < pts.length
  ·have hst := (w.set k hkn).1
   have hsm : ∀ z : Nat, Sm u[z]! := by
    intro z
    by_cases hz : z < pts.length
    ·exact ⟨Nat.lt_of_lt_of_le (hS2.2 z hz).1 (Nat.pow_le_pow_right (by decide) (by omega))⟩
    ·rw [getElem!_neg u z (by rw [hul]; exact hz)]; exact ⟨by decide⟩
   have hs1 : Sm (wS ts pts[k]! [2]) := c9 (by omega)
   have hs2 : Sm (gC pts[k]!) := pA (by omega)
   have hs3 : ∀ V,Sm (oT pts V) := fun V => GF w V
   have hnl := w.nl k hkn
   have e1 : bO pts[k]! = true → lS u[k]! (oT pts (wS ts pts[k]! [2] ||| gC pts[k]!)) ||| 2 ^ (k : Int).toNat = vZ ts pts k u[k]! := fun h => by unfold vZ J4;rw [if_pos h]; rfl
   have e0 : bO pts[k]! = false → lS u[k]! (oT pts (wS ts pts[k]! [2] ||| gC pts[k]!)) = vZ ts pts k u[k]! := fun h => by unfold vZ J4;rw [if_neg (by rw [h]; simp),Nat.or_zero]
   have hps : Sm (vZ ts pts k u[k]!) := ⟨Nat.lt_of_lt_of_le (AG w hkn (hS2.2 k hkn).1) (Nat.pow_le_pow_right (by decide) (by omega))⟩
   repeat' (first|(apply aF;first|(apply iC;rfl;rfl;infer_instance;omega;rfl;(case' kk => intro hsm))|(first|(apply aA (k := 126);rfl;(apply oX <;> (assumption));exact Pur.pf;rfl)|(apply aA (k := 133);rfl;(apply mZ <;> (omega));exact Pur.pf;rfl)|(apply aA (k := 128);rfl;(apply kL);exact Pur.pf;rfl)|(apply aA (k := 132);rfl;(apply zL <;> (first|assumption|infer_instance));exact Pur.pf;rfl)))|refine aD ?_|(refine aK ?_ ?_ <;> intro hc hq <;> try (exfalso;omega))|refine bT ?_|fail)
   all_goals first|rw [e1 (by assumption)]|rw [e0 (by assumption)]
   all_goals
    refine aI (σ := Nat × (List Nat × Bool)) [0,3,7,20,21,22,47,48] [] (fun j => [(49,iv (j.1 : Int)),(4,bv j.2.2)]) (fun j => [(0,some (flat cW j.2.1))]) (fun j => j.1 ≤ pts[k]!.next.length ∧ j.2 = ((r8 pts k).take j.1).foldl (j5 l8 (vZ ts pts k u[k]!)) (u,c) ∧ SG pts (Lt ts pts) j.2.1) (fun j => pts[k]!.next.length - j.1) (0,(u,c)) ⟨by omega,rfl,hS2⟩ ?_
    rintro ⟨j,u2,c2⟩ ⟨hj,hf2,hS3⟩
    dsimp only at hj hf2 hS3 ⊢
    have hul2 := hS3.1
    have hsm2 : ∀ z : Nat, Sm u2[z]! := by
     intro z
     by_cases hz : z < pts.length
     ·exact ⟨Nat.lt_of_lt_of_le (hS3.2 z hz).1 (Nat.pow_le_pow_right (by decide) (by omega))⟩
     ·rw [getElem!_neg u2 z (by rw [hul2]; exact hz)]; exact ⟨by decide⟩
    have hz : j < pts[k]!.next.length → 0 ≤ pts[k]!.next[j]! ∧ pts[k]!.next[j]! < pts.length := fun h => w.nx k hkn _ (aZ _ _ h)
    repeat' (first|refine aD ?_|(refine aK ?_ ?_ <;> intro hc hq <;> try (exfalso;omega))|refine bT ?_|fail)
    ·have hzz := hz (by omega)
     have hed : bZ pts k (pts[k]!.next[j]!).toNat := ⟨hkn,by rw [Int.toNat_of_nonneg hzz.1]; exact aZ _ _ (by omega)⟩
     have hne : l8 u2[(pts[k]!.next[j]!).toNat]! (vZ ts pts k u[k]!) ≠ u2[(pts[k]!.next[j]!).toNat]! := fun h => hq (congrArg Int.ofNat h)
     (refine aY (j + 1,(_,true)) (Le.renA [(0,0)]) ?_ ?_)
     ·dsimp only
      refine ⟨by omega,?_,wG fl w (hS2.2 k hkn) hed hS3⟩
      rw [gP (by omega),← hf2,u7 hne]
     ·dsimp only;omega
    ·have hzz := hz (by omega)
     have hne : l8 u2[(pts[k]!.next[j]!).toNat]! (vZ ts pts k u[k]!) = u2[(pts[k]!.next[j]!).toNat]! := Int.ofNat.inj hq
     (refine aY (j + 1,(u2,c2)) (Le.renA [(0,0)]) ?_ ?_)
     ·dsimp only
      refine ⟨by omega,?_,hS3⟩
      rw [gP (by omega),← hf2,wU hne]
     ·dsimp only;omega
    ·(refine aY (k + 1, (u2, c2)) (Le.renA [(0, 0)]) ?_ ?_)
     ·dsimp only
      refine ⟨by omega,?_,hS3⟩
      rw [c5,← hf,hf2,List.take_of_length_le (by rw [jX]; omega)]; rfl
     ·dsimp only;omega
  ·repeat' (first | refine aD ?_ | (refine aK ?_ ?_ <;> intro hc hq <;> try (exfalso; omega))|fail)
   have law := rC w fl s false hS
   have hfull : (u, c) = vS l8 (vZ ts pts) pts (s, false) := by
    rw [hf,show k = pts.length by omega]; rfl
   rw [← hfull] at law
   (refine aY (u,c) (Le.renA [(0,0)]) ?_ ?_)
   ·dsimp only
    refine ⟨hS2,fun h => ?_⟩
    rcases law.2 with ⟨e1,e2⟩ | ⟨e1,_⟩
    ·cases e1;exact e2
    ·dsimp only at e1;rw [h] at e1;cases e1
   ·dsimp only
    have hb : b = true := by assumption
    subst hb
    rcases law.2 with ⟨e1,e2⟩ | ⟨e1,e2⟩
    ·cases e1;simp
    ·dsimp only at e1 e2;subst e1;omega
 ·have hb : b = false := by assumption
  refine aT (Le.frzD (d := 2) (i := 0) rfl rfl) ?_
  refine aE rfl ⟨?_,(by (exact a7 _ _))⟩
  simp only [aO]
  rw [C0 hA (Eo w hS (hC hb))]
theorem AK (ts:List Int) (bd:List AL.Stmt) (pts:List Pnt) (i:Int) (f:List Nat) (w:WG ts pts) (hi:0 ≤ i ∧ i < pts.length) (hf:f.length = 6) (hs:∀ z:Nat,Sm f[z]!):PC Tryz.prog 99 [aG ts bd pts,iv i,.agg (flat cW f)] (fun r => r = .agg (flat cW (vM ts pts i.toNat f))):=by
 have hpl := w.pl
 have htl := w.tl
 have hin : i.toNat < pts.length := by omega
 have hst := (w.set i.toNat hin)
 have hy := w.y i.toNat hin
 have hbl := jF (wS ts pts[i.toNat]! [2])
 have hT : Sm (wS ts pts[i.toNat]! [2]) := c9 (by omega)
 refine aC Tryz.func99 Tryz.ntmps99 ?_
 repeat' (first|(apply aF;(first|(apply aA (k := 75);rfl;(apply vG <;> (assumption));(rfl);rfl)|(apply aA (k := 126);rfl;(apply oX <;> (assumption));exact Pur.pf;rfl)))|refine aD ?_|fail)
 refine aI (σ := Nat × List Nat) [0,1,5,6,7,8,23,24] [0,1,2] (fun k => [(25,iv (k.1 : Int))]) (fun k => [(3,some (flat cW k.2))]) (fun k => k.1 ≤ (aX (wS ts pts[i.toNat]! [2])).length ∧ k.2 = l3 ((aX (wS ts pts[i.toNat]! [2])).take k.1) f ∧ k.2.length = 6) (fun k => (aX (wS ts pts[i.toNat]! [2])).length - k.1) (0,f) ⟨by omega,rfl,hf⟩ ?_
 rintro ⟨k,u⟩ ⟨hk,hu,hul⟩
 dsimp only at hk hu hul ⊢
 have hbb : k < (aX (wS ts pts[i.toNat]! [2])).length → 0 ≤ (aX (wS ts pts[i.toNat]! [2]))[k]! ∧ (aX (wS ts pts[i.toNat]! [2]))[k]! < ts.length := fun h => kK (tY (fun v => decide (aU ts pts[i.toNat]! v ∈ [2])) ts.length) h
 have husm : ∀ z : Nat,Sm u[z]! := by intro z;rw [hu]; exact Ji hs z
 have hset : ∀ (k a : Nat) [Sm a] (z : Nat),Sm (u.set k a)[z]! := fun k a h z => AM husm h z
 have hset2 : ∀ (k a k2 a2 : Nat) [Sm a] [Sm a2] (z : Nat),Sm ((u.set k a).set k2 a2)[z]! := fun k a k2 a2 h h2 z => AM (AM husm h) h2 z
 by_cases hkn : k < (aX (wS ts pts[i.toNat]! [2])).length
 ·have hbk := hbb hkn
  repeat' (first|refine aD ?_|(refine aK ?_ ?_ <;> intro hc hq <;> try (exfalso;omega))|fail)
  (refine aY (k + 1,u.set ((aX (wS ts pts[i.toNat]! [2]))[k]!).toNat 0) (Le.renA [(0,0),(1,1),(2,2),(3,3)]) ?_ ?_)
  ·dsimp only
   exact ⟨by omega,by rw [DS hkn,← hu],by simpa using hul⟩
  ·dsimp only;omega
 ·have hu' : u = l3 (aX (wS ts pts[i.toNat]! [2])) f := by rw [hu, List.take_of_length_le (by omega)]
  cases hln : bO pts[i.toNat]!
  ·repeat' (first | (apply aF; (first | (apply aA (k := 127);rfl;(apply vO);exact Pur.pf;rfl) | (apply aA (k := 128);rfl;(apply kL);exact Pur.pf;rfl))) | refine aD ?_ | (refine aK ?_ ?_ <;> intro hc hq <;> try (exfalso; omega)) | refine bT ?_|fail)
   all_goals (refine aE (l5 (z := 6) rfl rfl (by first|exact hul|(simp only [List.length_set]; exact hul)) (by decide)) ⟨?_,(by (exact a7 _ _))⟩)
   all_goals simp only [aO,vM,← hu',hln,Bool.false_eq_true,false_and,false_or,if_false]
   all_goals congr 2
   all_goals grind
  ·have hop := m9 hln
   repeat' (first|(apply aF;first|(apply iC;rfl;rfl;infer_instance;omega;rfl;(case' kk => intro hsm))|(first|(apply aA (k := 127);rfl;(apply vO);exact Pur.pf;rfl)|(apply aA (k := 128);rfl;(apply kL);exact Pur.pf;rfl)|(apply aA (k := 129);rfl;(apply w4);(rfl);rfl)))|refine aD ?_|(refine aK ?_ ?_ <;> intro hc hq <;> try (exfalso;omega))|(refine bR ?_ ?_ <;> intro hg hq <;> try (exfalso;omega))|refine bT ?_|fail)
   all_goals (refine aE (l5 (z := 6) rfl rfl (by first|exact hul|(simp only [List.length_set]; exact hul)) (by decide)) ⟨?_,(by (exact a7 _ _))⟩)
   all_goals simp only [aO,vM,← hu',hln,true_and,if_true]
   all_goals congr 2
   all_goals grind
theorem sR (ts:List Int) (bd:List AL.Stmt) (pts:List Pnt) (A:List Nat) (w:WG ts pts) (hA:oD ts pts A):PC Tryz.prog 61 [aG ts bd pts] (fun r => r = .imm pts.length (flat cW A)):=by
 have hpl := w.pl
 have hp0 := w.p0
 have htl := w.tl
 refine aC Tryz.func61 Tryz.ntmps61 ?_
 repeat' (first|refine aD ?_|fail)
 refine aI (σ := List Nat × Bool) [0,3] [] (fun s => [(4,bv s.2)]) (fun s => [(0,some (flat cW s.1))]) (fun s => SF ts pts s.1 ∧ (s.2 = false → wF ts pts s.1)) (fun s => 2 * dZ (s.1.map (fun x => 2 ^ pts.length - x)) + s.2.toNat) (List.replicate (pts.length * 6) 0,true) ⟨JM,fun h => by cases h⟩ ?_
 rintro ⟨s,b⟩ ⟨hS,hC⟩
 dsimp only at hS hC ⊢
 repeat' (first|refine aD ?_|(refine aK ?_ ?_ <;> intro hc hq <;> try (exfalso;omega))|fail)
 ·refine aI (σ := Nat × (List Nat × Bool)) [0, 3, 22, 23] [] (fun k => [(24, iv (k.1 : Int)), (4, bv k.2.2)]) (fun k => [(0, some (flat cW k.2.1))]) (fun k => k.1 ≤ pts.length ∧ k.2 = (List.range k.1).foldl (A3 ts pts) (s, false) ∧ SF ts pts k.2.1) (fun k => pts.length - k.1) (0, (s, false)) ⟨by omega, rfl, hS⟩ ?_
  rintro ⟨i,u,c⟩ ⟨hk,hf,hS2⟩
  dsimp only at hk hf hS2 ⊢
  have hul := hS2.1
  have hsm : ∀ z : Nat,Sm u[z]! := Jc w hS2
  by_cases hin : i < pts.length
  ·have hnl := w.nl i hin
   have hrl : ((u.drop (i * 6)).take 6).length = 6 := eY hul hin
   have hrs : ∀ z : Nat, Sm ((u.drop (i * 6)).take 6)[z]! := by
    intro z
    by_cases hz : z < 6
    ·have := dO hul hin hz;unfold cE at this;rw [this]; exact hsm _
    ·rw [getElem!_neg _ z (by rw [hrl]; exact hz)]; exact ⟨by decide⟩
   have hcl : (vM ts pts (i : Int).toNat ((u.drop (i * 6)).take 6)).length = 6 := (GX ts pts i ((u.drop (i * 6)).take 6)).trans hrl
   repeat' (first|(apply aF;(apply aA (k := 99);rfl;(apply AK <;> (first|assumption|omega));exact Pur.pf;rfl))|refine aD ?_|(refine aK ?_ ?_ <;> intro hc hq <;> try (exfalso;omega))|fail)
   generalize hcf : vM ts pts (i : Int).toNat ((u.drop (i * 6)).take 6) = a at hcl
   have hcf' : vM ts pts i (cE u i) = a := hcf
   have hasnd : ∀ k,bZ pts i k → ∀ v,v < 6 → K4 ts pts k v a[v]! := fun k e v hv => by rw [← hcf']; exact Ce w hS2 e hv
   refine aI (σ := Nat × (List Nat × Bool)) [0,3,7,22,23,24,37,38] [2] (fun j => [(39,iv (j.1 : Int)),(4,bv j.2.2)]) (fun j => [(0,some (flat cW j.2.1))]) (fun j => j.1 ≤ pts[i]!.next.length ∧ j.2 = ((r8 pts i).take j.1).foldl (sQ a) (u,c) ∧ SF ts pts j.2.1) (fun j => pts[i]!.next.length - j.1) (0,(u,c)) ⟨by omega,rfl,hS2⟩ ?_
   rintro ⟨j,u2,c2⟩ ⟨hj,hf2,hS3⟩
   dsimp only at hj hf2 hS3 ⊢
   have hul2 := hS3.1
   by_cases hjn : j < pts[i]!.next.length
   ·have hzz : 0 ≤ pts[i]!.next[j]! ∧ pts[i]!.next[j]! < pts.length := w.nx i hin _ (aZ _ _ hjn)
    have hed : bZ pts i (pts[i]!.next[j]!).toNat := ⟨hin,by rw [Int.toNat_of_nonneg hzz.1]; exact aZ _ _ hjn⟩
    have hap := hasnd _ hed
    have hasm : ∀ z : Nat, Sm a[z]! := by
     intro z
     by_cases hz : z < 6
     ·exact ⟨Nat.lt_of_lt_of_le (hap z hz).1 (Nat.pow_le_pow_right (by decide) (by omega))⟩
     ·rw [getElem!_neg a z (by rw [hcl]; exact hz)]; exact ⟨by decide⟩
    repeat' (first|refine aD ?_|(refine aK ?_ ?_ <;> intro hc hq <;> try (exfalso;omega))|fail)
    refine aI (σ := Nat × (List Nat × Bool)) [0,3,7,9,22,23,24,37,38,39,43] [2] (fun v => [(44,iv (v.1 : Int)),(4,bv v.2.2)]) (fun v => [(0,some (flat cW v.2.1))]) (fun v => v.1 ≤ 6 ∧ v.2 = (List.range v.1).foldl (nN a (pts[i]!.next[j]!).toNat) (u2,c2) ∧ SF ts pts v.2.1) (fun v => 6 - v.1) (0,(u2,c2)) ⟨by omega,rfl,hS3⟩ ?_
    rintro ⟨v,u3,c3⟩ ⟨hv,hf3,hS4⟩
    dsimp only at hv hf3 hS4 ⊢
    have hul3 := hS4.1
    have hsm3 : ∀ z : Nat,Sm u3[z]! := Jc w hS4
    by_cases hvn : v < 6
    ·have hlaw := zB (cO w hed) hap u3 c3 v hvn hS4
     repeat' (first|refine aD ?_|(refine aK ?_ ?_ <;> intro hc hq <;> try (exfalso;omega))|refine bT ?_|fail)
     ·have hne : l8 u3[(pts[i]!.next[j]!).toNat * 6 + v]! a[v]! ≠ u3[(pts[i]!.next[j]!).toNat * 6 + v]! := fun h => hq (congrArg Int.ofNat h)
      have e1 : nN a (pts[i]!.next[j]!).toNat (u3,c3) v = (u3.set ((pts[i]!.next[j]!).toNat * 6 + v) (l8 u3[(pts[i]!.next[j]!).toNat * 6 + v]! a[v]!),true) := u7 hne
      rw [e1] at hlaw
      (refine aY (v + 1,(_,true)) (Le.renA [(0,0),(2,2)]) ?_ ?_)
      ·dsimp only
       refine ⟨by omega,?_,hlaw.1⟩
       rw [tN,← hf3,e1]; rfl
      ·dsimp only;omega
     ·have hne : l8 u3[(pts[i]!.next[j]!).toNat * 6 + v]! a[v]! = u3[(pts[i]!.next[j]!).toNat * 6 + v]! := Int.ofNat.inj hq
      have e1 : nN a (pts[i]!.next[j]!).toNat (u3,c3) v = (u3,c3) := wU hne
      (refine aY (v + 1,(u3,c3)) (Le.renA [(0,0),(2,2)]) ?_ ?_)
      ·dsimp only
       refine ⟨by omega,?_,hS4⟩
       rw [tN,← hf3,e1]
      ·dsimp only;omega
    ·have hv6 : v = 6 := by omega
     subst hv6
     repeat' (first|refine aD ?_|fail)
     (refine aY (j + 1,(u3,c3)) (Le.renA [(0,0),(2,2)]) ?_ ?_)
     ·dsimp only
      refine ⟨by omega,?_,hS4⟩
      rw [C7 hjn,← hf2,hf3]; rfl
     ·dsimp only;omega
   ·repeat' (first | refine aD ?_ | (refine aK ?_ ?_ <;> intro hc hq <;> try (exfalso; omega))|fail)
    (refine aY (i + 1,(u2,c2)) (Le.renA [(0,0)]) ?_ ?_)
    ·dsimp only
     refine ⟨by omega,?_,hS3⟩
     rw [c5,← hf,hf2,List.take_of_length_le (by rw [jX]; omega),← hcf']; rfl
    ·dsimp only;omega
  ·repeat' (first | refine aD ?_ | (refine aK ?_ ?_ <;> intro hc hq <;> try (exfalso; omega))|fail)
   have law := E4 w s false hS
   have hfull : (u, c) = Ej ts pts (s, false) := by
    rw [hf,show i = pts.length by omega]; rfl
   rw [← hfull] at law
   (refine aY (u,c) (Le.renA [(0,0)]) ?_ ?_)
   ·dsimp only
    refine ⟨hS2,fun h => ?_⟩
    rcases law.2 with ⟨e1,e2⟩ | ⟨e1,_⟩
    ·cases e1;exact e2
    ·dsimp only at e1;rw [h] at e1;cases e1
   ·dsimp only
    have hb : b = true := by assumption
    subst hb
    rcases law.2 with ⟨e1,e2⟩ | ⟨e1,e2⟩
    ·cases e1;simp
    ·dsimp only at e1 e2;subst e1;omega
 ·have hb : b = false := by assumption
  refine aT (Le.frzD (d := 2) (i := 0) rfl rfl) ?_
  refine aE rfl ⟨?_,(by (exact a7 _ _))⟩
  simp only [aO]
  rw [Di hA (EN w hS (hC hb))]
theorem KC (ts:List Int) (bd:List AL.Stmt) (pts:List Pnt) (i:Int) (lv:Nat) (f:List Nat) (w:WG ts pts) (hi:0 ≤ i ∧ i < pts.length) (hlv:lv < 2 ^ ts.length) (hf:f.length = 6) (hs:∀ z:Nat,Sm f[z]!):PC Tryz.prog 105 [aG ts bd pts,iv i,iv (lv:Int),.agg (flat cW f)] (fun r => r = .v (.int .u64 (tU ts pts[i.toNat]! lv f:Nat))):=by
 have hpl := w.pl
 have htl := w.tl
 have hin : i.toNat < pts.length := by omega
 have hst := (w.set i.toNat hin)
 have hsl : Sm lv := ⟨Nat.lt_of_lt_of_le hlv (Nat.pow_le_pow_right (by decide) (by omega))⟩
 have hT : Sm (wS ts pts[i.toNat]! [2]) := c9 (by omega)
 have hB : Sm (gC pts[i.toNat]!) := pA (by omega)
 have hbl := jF (lS lv (wS ts pts[i.toNat]! [2] ||| gC pts[i.toNat]!))
 have hlt : lS lv (wS ts pts[i.toNat]! [2] ||| gC pts[i.toNat]!) < 2 ^ ts.length := Nat.xor_lt_two_pow hlv (Nat.lt_of_le_of_lt Nat.and_le_left hlv)
 refine aC Tryz.func105 Tryz.ntmps105 ?_
 repeat' (first|(apply aF;(first|(apply aA (k := 75);rfl;(apply vG <;> (infer_instance));(rfl);rfl)|(apply aA (k := 126);rfl;(apply oX <;> (assumption));exact Pur.pf;rfl)|(apply aA (k := 133);rfl;(apply mZ <;> (omega));exact Pur.pf;rfl)))|refine aD ?_|refine bT ?_|fail)
 refine aI (σ := Nat × Nat) [7,28,29] [0] (fun k => [(30,iv (k.1 : Int)),(10,.v (.int .u64 (k.2 : Int)))]) (fun k => []) (fun k => k.1 ≤ (aX (lS lv (wS ts pts[i.toNat]! [2] ||| gC pts[i.toNat]!))).length ∧ k.2 = KO f ((aX (lS lv (wS ts pts[i.toNat]! [2] ||| gC pts[i.toNat]!))).take k.1) 0 ∧ Sm k.2) (fun k => (aX (lS lv (wS ts pts[i.toNat]! [2] ||| gC pts[i.toNat]!))).length - k.1) (0,0) ⟨by omega,rfl,inferInstance⟩ ?_
 rintro ⟨k,a⟩ ⟨hk,ha,hsa⟩
 dsimp only at hk ha hsa ⊢
 have hbb : k < (aX (lS lv (wS ts pts[i.toNat]! [2] ||| gC pts[i.toNat]!))).length → 0 ≤ (aX (lS lv (wS ts pts[i.toNat]! [2] ||| gC pts[i.toNat]!)))[k]! ∧ (aX (lS lv (wS ts pts[i.toNat]! [2] ||| gC pts[i.toNat]!)))[k]! < ts.length := fun h => kK hlt h
 repeat' (first|refine aD ?_|(refine aK ?_ ?_ <;> intro hc hq <;> try (exfalso;omega))|fail)
 ·(refine aY (k + 1, _) (Le.renA [(0, 0)]) ?_ ?_)
  ·dsimp only
   refine ⟨by omega,?_,inferInstance⟩
   rw [ha]; unfold KO;rw [cV _ _ _ _ (by omega)]
  ·dsimp only;omega
 ·refine aE rfl ⟨?_, rfl⟩
  simp only [aO]
  rw [ha,List.take_of_length_le (by omega)]; rfl
theorem A5 (ts:List Int) (bd:List AL.Stmt) (pts:List Pnt) (x:Pnt) (mb:Nat) (htl:ts.length ≤ 6) (hmb:Sm mb) (hst:aP x < ts.length) (hy:0 ≤ x.y ∧ (3 ≤ x.op → x.op ≤ 7 → x.y < ts.length)):PC Tryz.prog 134 [aG ts bd pts,kN x,iv (mb:Int)] (fun r => r = sl DN (hZ ts x (mb.testBit (aP x).toNat))):=by
 refine aC Tryz.func134 Tryz.ntmps134 ?_
 repeat' (first|(apply aF;first|(apply nB (d := 7) (e := 2);rfl;rfl)|(first|(apply aA (k := 127);rfl;(apply vO);exact Pur.pf;rfl)|(apply aA (k := 146);rfl;(apply Cp <;> (omega));exact Pur.pf;rfl)))|refine aD ?_|(refine aK ?_ ?_ <;> intro hc hq <;> try (exfalso;omega))|(refine bR ?_ ?_ <;> intro hg hq <;> try (exfalso;omega))|fail)
 all_goals first|refine aT (Le.frzD (d := 6) (i := 1) rfl rfl) ?_|refine aT (Le.frzD (d := 6) (i := 3) rfl rfl) ?_|refine aT (Le.frzD (d := 6) (i := 5) rfl rfl) ?_
 all_goals refine aE rfl ⟨?_,(by (rfl))⟩
 all_goals simp only [aO,hZ]
 all_goals have h1 := kQ mb (aP x).toNat
 all_goals (try (rw [if_neg (show ¬ (0 ≤ aP x ∧ ts[(aP x).toNat]! = 2 ∧ mb.testBit (aP x).toNat = true) from fun h => by omega)]))
 all_goals (simp_all <;> rfl)
theorem CZ (ts:List Int) (bd:List AL.Stmt) (pts:List Pnt) (i:Int) (mb loans:Nat) (w:WG ts pts) (hi:0 ≤ i ∧ i < pts.length) (hmb:Sm mb) (hlo:loans < 2 ^ pts.length):PC Tryz.prog 104 [aG ts bd pts,iv i,iv (mb:Int),.v (.int .u64 (loans:Int))] (fun r => r = .v (.int .u64 (GR pts loans (hZ ts pts[i.toNat]! (mb.testBit (aP pts[i.toNat]!).toNat)) 0:Nat))):=by
 have hpl := w.pl
 have htl := w.tl
 have hin : i.toNat < pts.length := by omega
 have hst := (w.set i.toNat hin).1
 have hy := w.y i.toNat hin
 have hx := w.x i.toNat hin
 have hop := w.op i.toNat hin
 have hlsm : Sm loans := ⟨Nat.lt_of_lt_of_le hlo (Nat.pow_le_pow_right (by decide) (by omega))⟩
 have hacc := BZ (mb.testBit (aP pts[i.toNat]!).toNat) w hin
 have hal := y5 ts pts[i.toNat]! (mb.testBit (aP pts[i.toNat]!).toNat)
 refine aC Tryz.func104 Tryz.ntmps104 ?_
 repeat' (first|(apply aF;(apply aA (k := 134);rfl;(apply A5 <;> (assumption));exact Pur.pf;rfl))|refine aD ?_|fail)
 generalize hZ ts pts[i.toNat]! (mb.testBit (aP pts[i.toNat]!).toNat) = acs at hacc hal
 refine aI (σ := Nat × Nat) [0,3,23,24] [] (fun k => [(25,iv (k.1 : Int)),(9,.v (.int .u64 (k.2 : Int)))]) (fun k => []) (fun k => k.1 ≤ acs.length ∧ k.2 = GR pts loans (acs.take k.1) 0 ∧ k.2 < 2 ^ pts.length) (fun k => acs.length - k.1) (0,0) ⟨by omega,rfl,Nat.pow_pos (by decide)⟩ ?_
 rintro ⟨k,a⟩ ⟨hk,ha,hab⟩
 dsimp only at hk ha hab ⊢
 by_cases hkn : k < acs.length
 ·have hcv := hacc _ (aZ acs k hkn)
  have hof : ∀ V,Sm (oT pts V) := fun V => GF w V
  have hll := jF (loans &&& oT pts (2 ^ (acs[k]!.var).toNat))
  have hlb : loans &&& oT pts (2 ^ (acs[k]!.var).toNat) < 2 ^ pts.length := Nat.lt_of_le_of_lt Nat.and_le_left hlo
  have htk := cV (fun a c => IP pts c.write (aX (loans &&& oT pts (2 ^ c.var.toNat))) a) acs 0 k hkn
  repeat' (first|(apply aF;first|(apply iC;rfl;rfl;infer_instance;omega;rfl;(case' kk => intro hsm))|(first|(apply aA (k := 103);rfl;(apply qQ <;> (infer_instance));(rfl);rfl)|(apply aA (k := 132);rfl;(apply zL <;> (assumption));exact Pur.pf;rfl)))|refine aD ?_|(refine aK ?_ ?_ <;> intro hc hq <;> try (exfalso;omega))|fail)
  refine aI (σ := Nat × Nat) [0,3,11,23,24,25,36,37] [0] (fun j => [(38,iv (j.1 : Int)),(9,.v (.int .u64 (j.2 : Int)))]) (fun j => []) (fun j => j.1 ≤ (aX (loans &&& oT pts (2 ^ (acs[k]!.var).toNat))).length ∧ j.2 = IP pts acs[k]!.write ((aX (loans &&& oT pts (2 ^ (acs[k]!.var).toNat))).take j.1) a ∧ j.2 < 2 ^ pts.length) (fun j => (aX (loans &&& oT pts (2 ^ (acs[k]!.var).toNat))).length - j.1) (0,a) ⟨by omega,rfl,hab⟩ ?_
  rintro ⟨j,b⟩ ⟨hj,hb,hbb⟩
  dsimp only at hj hb hbb ⊢
  have hbsm : Sm b := ⟨Nat.lt_of_lt_of_le hbb (Nat.pow_le_pow_right (by decide) (by omega))⟩
  by_cases hjn : j < (aX (loans &&& oT pts (2 ^ (acs[k]!.var).toNat))).length
  ·have hlz := kK hlb hjn
   have hstep : IP pts acs[k]!.write ((aX (loans &&& oT pts (2 ^ (acs[k]!.var).toNat))).take (j + 1)) a = if acs[k]!.write = true ∨ pts[((aX (loans &&& oT pts (2 ^ (acs[k]!.var).toNat)))[j]!).toNat]!.op = 5 then b ||| 2 ^ ((aX (loans &&& oT pts (2 ^ (acs[k]!.var).toNat)))[j]!).toNat else b := by
    rw [hb]; unfold IP;rw [cV _ _ _ _ hjn]
   have hb2 : b ||| 2 ^ ((aX (loans &&& oT pts (2 ^ (acs[k]!.var).toNat)))[j]!).toNat < 2 ^ pts.length := Nat.or_lt_two_pow hbb (Nat.pow_lt_pow_right (by decide) (by omega))
   repeat' (first|(apply aF;(apply iC;rfl;rfl;infer_instance;omega;rfl;(case' kk => intro hsm)))|refine aD ?_|(refine aK ?_ ?_ <;> intro hc hq <;> try (exfalso;omega))|(refine bR ?_ ?_ <;> intro hg hq <;> try (exfalso;omega))|fail)
   all_goals first
    | ((refine aY (j + 1, b ||| 2 ^ ((aX (loans &&& oT pts (2 ^ (acs[k]!.var).toNat)))[j]!).toNat) (Le.renA [(0, 0)]) ?_ ?_)
       ·dsimp only
        refine ⟨by omega,?_,hb2⟩
        rw [hstep,if_pos (by first|exact .inl (by assumption)|exact .inr (by assumption))]
       ·dsimp only;omega)
    | ((refine aY (j + 1, b) (Le.renA [(0, 0)]) ?_ ?_)
       ·dsimp only
        refine ⟨by omega,?_,hbb⟩
        rw [hstep,if_neg (fun h => h.elim (fun h1 => Bool.noConfusion (h1.symm.trans (by assumption : acs[k]!.write = false))) (fun h2 => absurd h2 (by assumption)))]
       ·dsimp only;omega)
  ·repeat' (first | refine aD ?_ | (refine aK ?_ ?_ <;> intro hc hq <;> try (exfalso; omega))|fail)
   (refine aY (k + 1,b) (Le.renA []) ?_ ?_)
   ·dsimp only
    refine ⟨by omega,?_,hbb⟩
    rw [hb,List.take_of_length_le (by omega),ha]; unfold GR;rw [htk]
   ·dsimp only;omega
 ·repeat' (first | refine aD ?_ | (refine aK ?_ ?_ <;> intro hc hq <;> try (exfalso; omega))|fail)
  refine aE rfl ⟨?_,rfl⟩
  simp only [aO]
  rw [ha,List.take_of_length_le (by omega)]
end Go.Proofs.YtgkalkgplcdnkaaGreatDoor
