/-
 A part of the proofs over this program: rules and contracts of its functions (the contracts).
-/
import Derived.Test.YtgkalkgplcdnkaaGreatDoorV1A07
import Derived.Test.YtgkalkgplcdnkaaGreatDoorRows
set_option linter.unusedVariables false
set_option linter.unusedSimpArgs false
set_option maxHeartbeats 8000000
set_option maxRecDepth 4000
attribute [local irreducible] Go.AL.RW Go.AL.AW Go.AL.Stop
namespace Go.Proofs.YtgkalkgplcdnkaaGreatDoor
open Go.AL
theorem l8 (a b c:Int):PC Tryz.prog 59 [iv a,iv b,iv c] (fun r => r = bv (decide (b ≤ a) && decide (a ≤ c))):=by
 refine aB Tryz.func59 Tryz.ntmps59 ?_
 repeat' (first|refine aD ?_|(refine bT ?_ ?_ <;> intro hg hq <;> try (exfalso;omega))|refine b9 ?_|fail)
 all_goals (refine ⟨?_,rfl⟩; simp only [aM,AV.v.injEq,Value.bool.injEq,Value.int.injEq,true_and])
 all_goals grind
theorem wI (t:Int):PC Tryz.prog 129 [iv t] (fun r => r = bv (gQ t)):=by
 refine aB Tryz.func129 Tryz.ntmps129 ?_
 repeat' (first|refine aD ?_|(refine bT ?_ ?_ <;> intro hg hq <;> try (exfalso;omega))|refine b9 ?_|fail)
 all_goals (refine ⟨?_,rfl⟩; simp only [aM,AV.v.injEq,Value.bool.injEq,Value.int.injEq,true_and])
 all_goals grind [gQ]
theorem DO (t:Int):PC Tryz.prog 140 [iv t] (fun r => r = bv (gQ t)):=by
 refine aB Tryz.func140 Tryz.ntmps140 ?_
 repeat' (first|refine aD ?_|(refine bT ?_ ?_ <;> intro hg hq <;> try (exfalso;omega))|refine b9 ?_|fail)
 all_goals (refine ⟨?_,rfl⟩; simp only [aM,AV.v.injEq,Value.bool.injEq,Value.int.injEq,true_and])
 all_goals grind [gQ]
theorem yC (t:Int):PC Tryz.prog 156 [iv t] (fun r => r = bv (decide (t = 2) || gQ t)):=by
 refine aB Tryz.func156 Tryz.ntmps156 ?_
 repeat' (first|(apply aI;(apply aA (k := 129);rfl;(apply wI);(rfl);rfl))|refine aD ?_|(refine bT ?_ ?_ <;> intro hg hq <;> try (exfalso;omega))|refine b9 ?_|fail)
 all_goals (refine ⟨?_,rfl⟩; simp only [aM,AV.v.injEq,Value.bool.injEq,Value.int.injEq,true_and])
 all_goals grind
theorem Ac (t:Int):PC Tryz.prog 143 [iv t] (fun r => r = bv (decide (t = 9) || decide (t = 10))):=by
 refine aB Tryz.func143 Tryz.ntmps143 ?_
 repeat' (first|refine aD ?_|(refine bT ?_ ?_ <;> intro hg hq <;> try (exfalso;omega))|refine b9 ?_|fail)
 all_goals (refine ⟨?_,rfl⟩; simp only [aM,AV.v.injEq,Value.bool.injEq,Value.int.injEq,true_and])
 all_goals grind
theorem Dw (ts:List Int) (v:Int):PC Tryz.prog 154 [sl cI ts,iv v] (fun r => r = iv (gF ts v)):=by
 refine aB Tryz.func154 Tryz.ntmps154 ?_
 repeat' (first|refine aD ?_|(refine aL ?_ ?_ <;> intro hc hq <;> try (exfalso;omega))|(refine bT ?_ ?_ <;> intro hg hq <;> try (exfalso;omega))|refine b9 ?_|fail)
 all_goals (refine ⟨?_,rfl⟩; simp only [aM,AV.v.injEq,Value.bool.injEq,Value.int.injEq,true_and])
 all_goals grind [gF]
theorem Dz (ts:List Int) (v:Int) (hl:ts.length ≤ 1048576):PC Tryz.prog 155 [sl cI ts,iv v] (fun r => r = iv (gF ts v)):=by
 refine aB Tryz.func155 Tryz.ntmps155 ?_
 repeat' (first|(apply aI;(apply aA (k := 59);rfl;(apply l8);(rfl);rfl))|refine aD ?_|(refine aL ?_ ?_ <;> intro hc hq <;> try (exfalso;omega))|refine b9 ?_|fail)
 all_goals (refine ⟨?_,rfl⟩; simp only [aM,AV.v.injEq,Value.bool.injEq,Value.int.injEq,true_and])
 all_goals grind [gF]
theorem z6 (ts:List Int) (s:AL.Stmt) (hl:aY ts = true):PC Tryz.prog 144 [sl cI ts,bG s] (fun r => r = bv (s.th.isEmpty && s.el.isEmpty && c7 ts s)):=by
 have hl2 := fM hl
 have hx := fW hl s.x
 have hy := fW hl s.y
 refine aB Tryz.func144 Tryz.ntmps144 ?_
 repeat' (first|(apply aI;(first|(apply aA (k := 59);rfl;(apply l8);(rfl);rfl)|(apply aA (k := 155);rfl;(apply Dz <;> (omega));exact Pur.pf;rfl)|(apply aA (k := 156);rfl;(apply yC);(rfl);rfl)))|refine aD ?_|(refine aL ?_ ?_ <;> intro hc hq <;> try (exfalso;omega))|(refine bT ?_ ?_ <;> intro hg hq <;> try (exfalso;omega))|refine bV ?_|refine b9 ?_|fail)
 all_goals (refine ⟨?_,rfl⟩; simp only [aM,AV.v.injEq,Value.bool.injEq,Value.int.injEq,true_and])
 all_goals (cases hth : s.th <;> cases hel : s.el <;> simp only [hth,hel,List.length_nil,List.length_cons,List.isEmpty_nil,List.isEmpty_cons,Bool.true_and,Bool.false_and] at *)
 all_goals (try unfold c7)
 all_goals (try simp only [gQ,Bool.or_eq_true,Bool.or_eq_false_iff,decide_eq_true_eq,decide_eq_false_iff_not] at *)
 all_goals grind
theorem x9 (ts:List Int) (s:AL.Stmt) (hl:aY ts = true):PC Tryz.prog 142 [sl cI ts,bG s] (fun r => r = bv (c7 ts s)):=by
 have hl2 := fM hl
 have hx := fW hl s.x
 have hy := fW hl s.y
 refine aB Tryz.func142 Tryz.ntmps142 ?_
 repeat' (first|(apply aI;(apply aA (k := 154);rfl;(apply Dw);exact Pur.pf;rfl))|refine aD ?_|(refine aL ?_ ?_ <;> intro hc hq <;> try (exfalso;omega))|(refine bT ?_ ?_ <;> intro hg hq <;> try (exfalso;omega))|refine b9 ?_|fail)
 all_goals (refine ⟨?_,rfl⟩; simp only [aM,AV.v.injEq,Value.bool.injEq,Value.int.injEq,true_and])
 all_goals (try unfold c7)
 all_goals grind
theorem Cs (ts:List Int) (hl:aY ts = true) (m:Nat) (ih:∀ l (d:Int),aK l < m → 0 ≤ d → d ≤ 1000 → PC Tryz.prog 87 [sl cI ts,sl aF l,iv d] (fun r => r = bv (okL ts d.toNat l))) (s:AL.Stmt) (d:Int) (hs:bF s ≤ m) (hd0:0 ≤ d) (hd:d ≤ 1000) :
  PC Tryz.prog 120 [sl cI ts,bG s,iv d] (fun r => r = bv (pY ts d.toNat s)) := by
 rw [Hi ts d hd0]
 refine aB Tryz.func120 Tryz.ntmps120 ?_
 repeat' (first|(apply aI;(first|(apply aA (k := 87);rfl;(apply ih <;> (first|omega|(have := fO s;omega)));exact Pur.pf;rfl)|(apply aA (k := 142);rfl;(apply x9 <;> (assumption));exact Pur.pf;rfl)))|refine aD ?_|(refine aL ?_ ?_ <;> intro hc hq <;> try (exfalso;omega))|(refine bT ?_ ?_ <;> intro hg hq <;> try (exfalso;omega))|refine b9 ?_|fail)
 all_goals (refine ⟨?_,rfl⟩; simp only [aM,AV.v.injEq,Value.bool.injEq,Value.int.injEq,true_and])
 all_goals (cases hth : s.th <;> cases hel : s.el <;> simp only [hth,hel,List.length_nil,List.length_cons,List.isEmpty_nil,List.isEmpty_cons,Bool.true_and,Bool.false_and] at *)
 all_goals grind
theorem Cb (ts:List Int) (hl:aY ts = true) (m:Nat) (ih:∀ s (d:Int),bF s ≤ m → 0 ≤ d → d ≤ 1000 → PC Tryz.prog 120 [sl cI ts,bG s,iv d] (fun r => r = bv (pY ts d.toNat s))) (l:List AL.Stmt) (d:Int) (hs:aK l ≤ m) (hm:m ≤ 100000000) (hd0:0 ≤ d) (hd:d ≤ 1000) :
  PC Tryz.prog 87 [sl cI ts,sl aF l,iv d] (fun r => r = bv (okL ts d.toNat l)) := by
 have hlen := cD l
 refine aB Tryz.func87 Tryz.ntmps87 ?_
 repeat' (first|refine aD ?_|fail)
 refine aJ (σ := Nat) [0,1,2] [] (fun k => [(7,iv (k : Int))]) (fun k => []) (fun k => k ≤ l.length ∧ ∀ i,i < k → pY ts d.toNat l[i]! = true) (fun k => l.length - k) (0) ⟨by omega,by omega⟩ ?_
 intro k ⟨hk,hall⟩
 have hck := dI l k
 repeat' (first|(apply aI;(apply aA (k := 120);rfl;(apply ih _ d (Nat.le_trans (hck (by omega)) hs) hd0 hd);exact Pur.pf;rfl))|refine aD ?_|(refine aL ?_ ?_ <;> intro hc hq <;> try (exfalso;omega))|refine b9 ?_|fail)
 ·(refine ⟨?_, rfl⟩; simp only [aM, AV.v.injEq, Value.bool.injEq, Value.int.injEq, true_and])
  rw [EH (k := k) (by omega) hq]
 ·(refine a7 (k + 1) (Le.renA []) ?_ ?_)
  ·grind
  ·omega
 ·(refine ⟨?_, rfl⟩; simp only [aM, AV.v.injEq, Value.bool.injEq, Value.int.injEq, true_and])
  rw [GQ (fun i hi => hall i (by omega))]
theorem Gz (ts:List Int) (hl:aY ts = true):∀ (m:Nat),m ≤ 100000000 → (∀ s (d:Int),bF s ≤ m → 0 ≤ d → d ≤ 1000 → PC Tryz.prog 120 [sl cI ts,bG s,iv d] (fun r => r = bv (pY ts d.toNat s))) ∧
  (∀ l (d : Int),aK l ≤ m → 0 ≤ d → d ≤ 1000 → PC Tryz.prog 87 [sl cI ts,sl aF l,iv d] (fun r => r = bv (okL ts d.toNat l))) := by
 intro m
 induction m using Nat.strongRecOn with
 | ind m ih =>
  intro hm
  have h1 : ∀ s (d : Int), bF s ≤ m → 0 ≤ d → d ≤ 1000 → PC Tryz.prog 120 [sl cI ts, bG s, iv d] (fun r => r = bv (pY ts d.toNat s)) :=
   fun s d h1 h2 h3 => Cs ts hl m (fun l d' g1 g2 g3 => (ih (aK l) g1 (by omega)).2 l d' (Nat.le_refl _) g2 g3) s d h1 h2 h3
  exact ⟨h1,fun l d g1 g2 g3 => Cb ts hl m h1 l d g1 hm g2 g3⟩
theorem zB (m0:Nat) (ih:∀ l (most:Int),aK l < m0 → -1 ≤ most → most ≤ 1000 → PC Tryz.prog 88 [sl aF l,iv most] (fun r => r = iv (kU most 0 l))) (l:List AL.Stmt) (most:Int) (hs:aK l ≤ m0) (hm:m0 ≤ 100000000) (hd0:-1 ≤ most) (hd:most ≤ 1000) :
  PC Tryz.prog 88 [sl aF l,iv most] (fun r => r = iv (kU most 0 l)) := by
 have hlen := cD l
 have hall := j6 l most 0
 refine aB Tryz.func88 Tryz.ntmps88 ?_
 repeat' (first|refine aD ?_|fail)
 refine aJ (σ := Nat × Int) [0,1] [] (fun k => [(6,iv (k.1 : Int)),(5,iv k.2)]) (fun k => []) (fun k => k.1 ≤ l.length ∧ kU most k.2 (l.drop k.1) = kU most 0 l ∧ 0 ≤ k.2 ∧ k.2 ≤ aK l) (fun k => l.length - k.1) (0,0) ⟨by omega,rfl,by omega,by omega⟩ ?_
 rintro ⟨k,n⟩ ⟨hk,hn,hn0,hn1⟩
 dsimp only at hk hn hn0 hn1 ⊢
 have hck := dI l k
 have hct := fO l[k]!
 have b1 := j6 l[k]!.th (most - n) 0
 have b2 := fun z => j6 l[k]!.el z 0
 have b3 := E9 l[k]! most n
 have b4 := j6 (l.drop (k + 1)) most (Fc most n l[k]!)
 have b5 := E2 most n l k
 rw [G3] at b3 b4 b5
 repeat' (first|(apply aI;(apply aA (k := 88);rfl;(apply ih <;> omega);exact Pur.pf;rfl))|refine aD ?_|(refine aL ?_ ?_ <;> intro hc hq <;> try (exfalso;omega))|(refine bT ?_ ?_ <;> intro hg hq <;> try (exfalso;omega))|refine b9 ?_|fail)
 ·(refine a7 (k + 1, n + 1 + kU (most - n) 0 l[k]!.th + kU (most - (n + 1 + kU (most - n) 0 l[k]!.th)) 0 l[k]!.el) (Le.renA []) ?_ ?_)
  ·dsimp only;grind
  ·dsimp only;omega
 ·(refine a7 (k + 1, n + 1 + kU (most - n) 0 l[k]!.th) (Le.renA []) ?_ ?_)
  ·dsimp only;grind
  ·dsimp only;omega
 ·(refine ⟨?_, rfl⟩; simp only [aM, AV.v.injEq, Value.bool.injEq, Value.int.injEq, true_and])
  rw [← hn,C6 _ _ _ (by omega)]
 ·(refine ⟨?_, rfl⟩; simp only [aM, AV.v.injEq, Value.bool.injEq, Value.int.injEq, true_and])
  rw [← hn,Hp _ _ _ _ (by omega)]
theorem CQ (l:List AL.Stmt) (most:Int) (hs:aK l ≤ 100000000) (hd0:-1 ≤ most) (hd:most ≤ 1000) :
  PC Tryz.prog 88 [sl aF l,iv most] (fun r => r = iv (kU most 0 l)) := by
 have h : ∀ (m : Nat), m ≤ 100000000 → ∀ l (most : Int), aK l ≤ m → -1 ≤ most → most ≤ 1000 → PC Tryz.prog 88 [sl aF l, iv most] (fun r => r = iv (kU most 0 l)) := by
  intro m
  induction m using Nat.strongRecOn with
  | ind m ih =>
   intro hm l most h1 h2 h3
   exact zB m (fun l' most' g1 g2 g3 => ih _ g1 (by omega) l' most' (Nat.le_refl _) g2 g3) l most h1 hm h2 h3
 exact h _ hs l most (Nat.le_refl _) hd0 hd
theorem C1 (ts:List Int) (l:List AL.Stmt) (d:Int) (hl:aY ts = true) (hs:aK l ≤ 100000000) (hd0:0 ≤ d) (hd:d ≤ 1000):PC Tryz.prog 87 [sl cI ts,sl aF l,iv d] (fun r => r = bv (okL ts d.toNat l)) :=
 (Gz ts hl _ hs).2 l d (Nat.le_refl _) hd0 hd
theorem rG (ts:List Int) (hl:ts.length ≤ 1048576):PC Tryz.prog 86 [sl cI ts] (fun r => r = bv (aY ts)):=by
 refine aB Tryz.func86 Tryz.ntmps86 ?_
 repeat' (first|refine aD ?_|fail)
 refine aJ (σ := Nat) [0] [] (fun k => [(3,iv (k : Int))]) (fun k => []) (fun k => k ≤ ts.length ∧ ∀ i,i < k → 1 ≤ ts[i]! ∧ ts[i]! ≤ 4) (fun k => ts.length - k) (0) ⟨by omega,by omega⟩ ?_
 intro k ⟨hk,hall⟩
 repeat' (first|refine aD ?_|(refine aL ?_ ?_ <;> intro hc hq <;> try (exfalso;omega))|(refine bT ?_ ?_ <;> intro hg hq <;> try (exfalso;omega))|refine b9 ?_|fail)
 ·(refine ⟨?_, rfl⟩; simp only [aM, AV.v.injEq, Value.bool.injEq, Value.int.injEq, true_and])
  unfold aY;grind [kE,hG]
 ·(refine a7 (k + 1) (Le.renA []) ?_ ?_)
  ·grind
  ·omega
 ·(refine ⟨?_, rfl⟩; simp only [aM, AV.v.injEq, Value.bool.injEq, Value.int.injEq, true_and])
  unfold aY;grind [kE,hG]
 ·(refine ⟨?_, rfl⟩; simp only [aM, AV.v.injEq, Value.bool.injEq, Value.int.injEq, true_and])
  unfold aY;grind [kE,hG]
theorem l7 (p:Prg) (hl:p.types.length ≤ 1048576) (hs:aK p.body ≤ 100000000):PC Tryz.prog 51 [bZ p] (fun r => r = bv (b0 p)):=by
 unfold b0
 cases ht : aY p.types
 ·refine aB Tryz.func51 Tryz.ntmps51 ?_
  repeat' (first|(apply aI;(apply aA (k := 86);rfl;(apply rG <;> (assumption));exact Pur.pf;rfl))|refine aD ?_|refine b9 ?_|fail)
  (refine ⟨?_,rfl⟩; simp only [aM,AV.v.injEq,Value.bool.injEq,Value.int.injEq,true_and])
  rfl
 ·refine aB Tryz.func51 Tryz.ntmps51 ?_
  repeat' (first|(apply aI;(first|(apply aA (k := 86);rfl;(apply rG <;> (assumption));exact Pur.pf;rfl)|(apply aA (k := 87);rfl;(apply C1 <;> (first|assumption|omega));exact Pur.pf;rfl)|(apply aA (k := 88);rfl;(apply CQ <;> (first|assumption|omega));exact Pur.pf;rfl)))|refine aD ?_|(refine bT ?_ ?_ <;> intro hg hq <;> try (exfalso;omega))|refine b9 ?_|fail)
  ·(refine ⟨?_, rfl⟩; simp only [aM, AV.v.injEq, Value.bool.injEq, Value.int.injEq, true_and])
   rw [show okL p.types 4 p.body = true from hq]; simp only [Bool.true_and,Jl,decide_eq_decide]; omega
  ·(refine ⟨?_, rfl⟩; simp only [aM, AV.v.injEq, Value.bool.injEq, Value.int.injEq, true_and])
   rw [show okL p.types 4 p.body = false from hq]; rfl
end Go.Proofs.YtgkalkgplcdnkaaGreatDoor
namespace Go.Proofs.YtgkalkgplcdnkaaGreatDoor
open Go.AL Go.RowKit
variable {N : Nat} {Q : Exit → AS → Prop} {all : Array Oper} {rest : List Oper} {tsl : List (Nat × AV)} {hsl : List (Nat × Option (List AV))} {nidl : Nat} {z0 : Lo} {md : Md} {d : Nat} {ty : TypeId} {pos : String} {af : Array Edge} {tys : Array TypeId}
theorem G2 {ts:List Int}{s:AL.Stmt}{nest c:Int}{x0 x1 x2 x3:Operand}{i0:Nat}(ha0:ev (lk tsl) x0 = some (sl cI ts)) (ha1:ev (lk tsl) x1 = some (bG s)) (ha2:ev (lk tsl) x2 = some (iv nest)) (ha3:ev (lk tsl) x3 = some (.optr i0 0)) (hH0:aP hsl i0 = some ([iv c])) (hmc:MC Tryz.prog 125 [sl cI ts,bG s,iv nest,.optr 0 0] [(0,some ([iv c]))] 1 (fun _:Unit => True) (fun _ => bv (jO ts nest c s).1) (fun _ => [(0,some ([iv (jO ts nest c s).2]))])) (hM:Nat.ble (nidl + 0) aS = true) (hN:Nat.blt d N = true){md':Md}[hmd:MdA md (iD [x0,x1,x2,x3] ++ [.inr i0]) (List.map Sum.inr (List.map Prod.fst ([(i0,some ([iv (jO ts nest c s).2]))]:List (Nat × Option (List AV)))) ++ [.inl d]) md'] (kk:RW Tryz.prog N all Q md' rest ⟨(d,bv (jO ts nest c s).1) :: tsl,kO hsl [(i0,some ([iv (jO ts nest c s).2]))],nidl + 0,z0⟩):RW Tryz.prog N all Q md (⟨some d,.call ⟨.value (.func 125),#[x0,x1,x2,x3],tys⟩,ty,pos,af,none⟩ :: rest) ⟨tsl,hsl,nidl,z0⟩:=by
 exact bR (l := [x0,x1,x2,x3]) [i0] 1 [(i0,some ([iv (jO ts nest c s).2]))] hmc (avs := [sl cI ts,bG s,iv nest,.optr i0 0]) (by simp only [evL,ha0,ha1,ha2,ha3]) rfl hM hN (md' := md') (hmd := hmd) kk
theorem oK {ts:List Int}{l:List AL.Stmt}{nest c:Int}{x0 x1 x2 x3:Operand}{i0:Nat}(ha0:ev (lk tsl) x0 = some (sl cI ts)) (ha1:ev (lk tsl) x1 = some (sl aF l)) (ha2:ev (lk tsl) x2 = some (iv nest)) (ha3:ev (lk tsl) x3 = some (.optr i0 0)) (hH0:aP hsl i0 = some ([iv c])) (hmc:MC Tryz.prog 97 [sl cI ts,sl aF l,iv nest,.optr 0 0] [(0,some ([iv c]))] 1 (fun _:Unit => True) (fun _ => bv (hZ ts nest c l).1) (fun _ => [(0,some ([iv (hZ ts nest c l).2]))])) (hM:Nat.ble (nidl + 0) aS = true) (hN:Nat.blt d N = true){md':Md}[hmd:MdA md (iD [x0,x1,x2,x3] ++ [.inr i0]) (List.map Sum.inr (List.map Prod.fst ([(i0,some ([iv (hZ ts nest c l).2]))]:List (Nat × Option (List AV)))) ++ [.inl d]) md'] (kk:RW Tryz.prog N all Q md' rest ⟨(d,bv (hZ ts nest c l).1) :: tsl,kO hsl [(i0,some ([iv (hZ ts nest c l).2]))],nidl + 0,z0⟩):RW Tryz.prog N all Q md (⟨some d,.call ⟨.value (.func 97),#[x0,x1,x2,x3],tys⟩,ty,pos,af,none⟩ :: rest) ⟨tsl,hsl,nidl,z0⟩:=by
 exact bR (l := [x0,x1,x2,x3]) [i0] 1 [(i0,some ([iv (hZ ts nest c l).2]))] hmc (avs := [sl cI ts,sl aF l,iv nest,.optr i0 0]) (by simp only [evL,ha0,ha1,ha2,ha3]) rfl hM hN (md' := md') (hmd := hmd) kk
theorem GX (ts:List Int) (htO:aY ts = true) (m:Nat) (scanAll_ih:∀ l nest c,aK l < m → 0 ≤ nest → nest ≤ 4 → 0 ≤ c → c ≤ 30 → MC Tryz.prog 97 [sl cI ts,sl aF l,iv nest,.optr 0 0] [(0,some ([iv c]))] 1 (fun _:Unit => True) (fun _ => bv (hZ ts nest c l).1) (fun _ => [(0,some ([iv (hZ ts nest c l).2]))])) (s:AL.Stmt) (nest c:Int) (hs:bF s ≤ m) (hn0:0 ≤ nest) (hn:nest ≤ 4) (hc0:0 ≤ c) (hc:c ≤ 30):MC Tryz.prog 125 [sl cI ts,bG s,iv nest,.optr 0 0] [(0,some ([iv c]))] 1 (fun _:Unit => True) (fun _ => bv (jO ts nest c s).1) (fun _ => [(0,some ([iv (jO ts nest c s).2]))]):=by
 have ct := fO s
 have hb1 := Iz ts s.th (nest + 1) (c + 1)
 refine bU Tryz.func125 Tryz.ntmps125 ?_
 repeat' (first|(apply aI;(first|(apply oK;rfl;rfl;rfl;rfl;(rfl);(apply scanAll_ih <;> (first|assumption|omega|grind));rfl;rfl)|(apply aA (k := 143);rfl;(apply Ac);(rfl);rfl)|(apply aA (k := 144);rfl;(apply z6 <;> (assumption));exact Pur.pf;rfl)))|refine aD ?_|(refine aL ?_ ?_ <;> intro hc hq <;> try (exfalso;omega))|(refine bT ?_ ?_ <;> intro hg hq <;> try (exfalso;omega))|fail)
 all_goals (refine aH rfl ?_; refine bQ () trivial ?_ ⟨sE ?_,trivial⟩)
 all_goals (try simp only [aM,AV.v.injEq,Value.bool.injEq,Value.int.injEq,true_and,jH,List.take,List.drop,List.length,List.append,List.nil_append,List.append_nil,Option.some.injEq,List.cons.injEq,and_true])
 all_goals rw [Hz]
 all_goals clear scanAll_ih
 all_goals (cases hel : s.el <;> simp only [hel,List.length_nil,List.length_cons] at * <;> grind)
theorem Ae (ts:List Int) (m:Nat) (hm:m ≤ 100000000) (scan_ih:∀ s nest c,bF s ≤ m → 0 ≤ nest → nest ≤ 4 → 0 ≤ c → c ≤ 30 → MC Tryz.prog 125 [sl cI ts,bG s,iv nest,.optr 0 0] [(0,some ([iv c]))] 1 (fun _:Unit => True) (fun _ => bv (jO ts nest c s).1) (fun _ => [(0,some ([iv (jO ts nest c s).2]))])) (l:List AL.Stmt) (nest c:Int) (hs:aK l ≤ m) (hn0:0 ≤ nest) (hn:nest ≤ 4) (hc0:0 ≤ c) (hc:c ≤ 30):MC Tryz.prog 97 [sl cI ts,sl aF l,iv nest,.optr 0 0] [(0,some ([iv c]))] 1 (fun _:Unit => True) (fun _ => bv (hZ ts nest c l).1) (fun _ => [(0,some ([iv (hZ ts nest c l).2]))]):=by
 have hlen := cD l
 refine bU Tryz.func97 Tryz.ntmps97 ?_
 repeat' (first|refine aD ?_|fail)
 refine aJ (σ := Nat × Int) [0,2,3,11,12] [] (fun k => [(13,iv (k.1 : Int))]) (fun k => [(0,some [iv k.2])]) (fun k => k.1 ≤ l.length ∧ hZ ts nest k.2 (l.drop k.1) = hZ ts nest c l ∧ 0 ≤ k.2 ∧ k.2 ≤ 30) (fun k => l.length - k.1) (0,c) ⟨by omega,rfl,by omega,by omega⟩ ?_
 rintro ⟨k,c'⟩ ⟨hk,hn,hn0,hn1⟩
 dsimp only at hk hn hn0 hn1 ⊢
 have hck := dI l k
 have hb1 := HX ts l[k]! nest c'
 have hst := @scL_stop ts nest c' l k
 repeat' (first|(apply aI;(apply G2;rfl;rfl;rfl;rfl;(rfl);(apply scan_ih <;> (first|assumption|omega));rfl;rfl))|refine aD ?_|(refine aL ?_ ?_ <;> intro hc hq <;> try (exfalso;omega))|fail)
 ·(refine aH rfl ?_; refine bQ () trivial ?_ ⟨sE ?_, trivial⟩)
  all_goals (try simp only [aM,AV.v.injEq,Value.bool.injEq,Value.int.injEq,true_and,jH,List.take,List.drop,List.length,List.append,List.nil_append,List.append_nil,Option.some.injEq,List.cons.injEq,and_true])
  all_goals (rw [← hn,hst (by omega)]; grind)
 ·(refine a7 (k + 1, (jO ts nest c' l[k]!).2) (Le.renA []) ?_ ?_)
  ·dsimp only;grind
  ·dsimp only;omega
 ·(refine aH rfl ?_; refine bQ () trivial ?_ ⟨sE ?_, trivial⟩)
  all_goals (try simp only [aM,AV.v.injEq,Value.bool.injEq,Value.int.injEq,true_and,jH,List.take,List.drop,List.length,List.append,List.nil_append,List.append_nil,Option.some.injEq,List.cons.injEq,and_true])
  all_goals (rw [← hn,List.drop_of_length_le (by omega),hZ])
theorem CB (ts:List Int) (hl:aY ts = true):∀ (m:Nat),m ≤ 100000000 → (∀ s (nest c:Int),bF s ≤ m → 0 ≤ nest → nest ≤ 4 → 0 ≤ c → c ≤ 30 → MC Tryz.prog 125 [sl cI ts,bG s,iv nest,.optr 0 0] [(0,some ([iv c]))] 1 (fun _:Unit => True) (fun _ => bv (jO ts nest c s).1) (fun _ => [(0,some ([iv (jO ts nest c s).2]))])) ∧
  (∀ l (nest c : Int),aK l ≤ m → 0 ≤ nest → nest ≤ 4 → 0 ≤ c → c ≤ 30 → MC Tryz.prog 97 [sl cI ts,sl aF l,iv nest,.optr 0 0] [(0,some ([iv c]))] 1 (fun _ : Unit => True) (fun _ => bv (hZ ts nest c l).1) (fun _ => [(0,some ([iv (hZ ts nest c l).2]))])) := by
 intro m
 induction m using Nat.strongRecOn with
 | ind m ih =>
  intro hm
  have h1 : ∀ s (nest c : Int), bF s ≤ m → 0 ≤ nest → nest ≤ 4 → 0 ≤ c → c ≤ 30 → MC Tryz.prog 125 [sl cI ts, bG s, iv nest, .optr 0 0] [(0, some ([iv c]))] 1 (fun _ : Unit => True) (fun _ => bv (jO ts nest c s).1) (fun _ => [(0, some ([iv (jO ts nest c s).2]))]) :=
   fun s nest c h1 h2 h3 h4 h5 => GX ts hl m (fun l nest c g1 g2 g3 g4 g5 => (ih (aK l) g1 (by omega)).2 l nest c (Nat.le_refl _) g2 g3 g4 g5) s nest c h1 h2 h3 h4 h5
  exact ⟨h1,fun l nest c g1 g2 g3 g4 g5 => Ae ts m hm h1 l nest c g1 g2 g3 g4 g5⟩
theorem B9 (ts:List Int) (l:List AL.Stmt) (nest c:Int) (hl:aY ts = true) (hs:aK l ≤ 100000000) (hn0:0 ≤ nest) (hn:nest ≤ 4) (hc0:0 ≤ c) (hc:c ≤ 30):MC Tryz.prog 97 [sl cI ts,sl aF l,iv nest,.optr 0 0] [(0,some ([iv c]))] 1 (fun _:Unit => True) (fun _ => bv (hZ ts nest c l).1) (fun _ => [(0,some ([iv (hZ ts nest c l).2]))]) :=
 (CB ts hl _ hs).2 l nest c (Nat.le_refl _) hn0 hn hc0 hc
theorem zE (t:Int):PC Tryz.prog 124 [iv t] (fun r => r = bv (!(decide (1 ≤ t) && decide (t ≤ 4)))):=by
 refine aB Tryz.func124 Tryz.ntmps124 ?_
 repeat' (first|(apply aI;(apply aA (k := 59);rfl;(apply l8);(rfl);rfl))|refine aD ?_|refine b9 ?_|fail)
 all_goals (refine ⟨?_,rfl⟩; simp only [aM,AV.v.injEq,Value.bool.injEq,Value.int.injEq,true_and])
def o7 (ts : List Int) : Int := match ts.findIdx? (fun t => !(decide (1 ≤ t) && decide (t ≤ 4))) with | some i => i | none => -1
theorem E3 (ts:List Int) (hl:ts.length ≤ 1048576):PC Tryz.prog 114 [sl cI ts,.v (.func (.func 124) #[] #[])] (fun r => r = iv (o7 ts)):=by
 refine aB Tryz.func114 Tryz.ntmps114 ?_
 repeat' (first|refine aD ?_|fail)
 refine aJ (σ := Nat) [0,1,7] [] (fun k => [(8,iv (k : Int))]) (fun k => []) (fun k => k ≤ ts.length ∧ ∀ i,i < k → 1 ≤ ts[i]! ∧ ts[i]! ≤ 4) (fun k => ts.length - k) (0) ⟨by omega,by omega⟩ ?_
 intro k ⟨hk,hall⟩
 repeat' (first|(apply aI;(apply l9;rfl;rfl;infer_instance;rfl;(apply zE);(rfl);rfl))|refine aD ?_|(refine aL ?_ ?_ <;> intro hc hq <;> try (exfalso;omega))|refine b9 ?_|fail)
 ·(refine ⟨?_, rfl⟩; simp only [aM, AV.v.injEq, Value.bool.injEq, Value.int.injEq, true_and])
  have hlt : k < ts.length := by omega
  have : ts.findIdx? (fun t => !(decide (1 ≤ t) && decide (t ≤ 4))) = some k := by
   rw [List.findIdx?_eq_some_iff_getElem]
   refine ⟨hlt,?_,fun j hj => ?_⟩
   ·rw [← bE ts k hlt]; grind
   ·have := hall j hj;rw [bE ts j (by omega)] at this;simp;omega
  simp only [o7,this]
 ·(refine a7 (k + 1) (Le.renA []) ?_ ?_)
  ·grind
  ·omega
 ·(refine ⟨?_, rfl⟩; simp only [aM, AV.v.injEq, Value.bool.injEq, Value.int.injEq, true_and])
  have : ts.findIdx? (fun t => !(decide (1 ≤ t) && decide (t ≤ 4))) = none := by
   rw [List.findIdx?_eq_none_iff]
   intro x hx
   obtain ⟨i,hi,rfl⟩ := List.getElem_of_mem hx
   have := hall i (by omega);rw [bE ts i hi] at this;simp;omega
  simp only [o7,this]
theorem B2 (ts:List Int):decide (0 ≤ o7 ts) = !(ts.all (fun t => decide (1 ≤ t) && decide (t ≤ 4))):=by
 unfold o7
 split
 ·rename_i i h
  obtain ⟨h1,h2,_⟩ := List.findIdx?_eq_some_iff_getElem.1 h
  have : ts.all (fun t => decide (1 ≤ t) && decide (t ≤ 4)) = false := by
   rw [List.all_eq_false]; exact ⟨ts[i],List.getElem_mem h1,by simp at h2 ⊢; omega⟩
  rw [this]; simp
 ·rename_i h
  rw [List.findIdx?_eq_none_iff] at h
  have : ts.all (fun t => decide (1 ≤ t) && decide (t ≤ 4)) = true := by
   rw [List.all_eq_true]; intro x hx;simpa using h x hx
  rw [this]; rfl
theorem Ca (ts:List Int) (hl:ts.length ≤ 1048576):PC Tryz.prog 74 [sl cI ts,.v (.func (.func 124) #[] #[])] (fun r => r = bv (!(ts.all (fun t => decide (1 ≤ t) && decide (t ≤ 4))))):=by
 refine aB Tryz.func74 Tryz.ntmps74 ?_
 repeat' (first|(apply aI;(apply aA (k := 114);rfl;(apply E3 <;> (assumption));exact Pur.pf;rfl))|refine aD ?_|refine b9 ?_|fail)
 (refine ⟨?_,rfl⟩; simp only [aM,AV.v.injEq,Value.bool.injEq,Value.int.injEq,true_and])
 exact B2 ts
theorem pJ (ts:List Int) (hl:ts.length ≤ 1048576):PC Tryz.prog 96 [sl cI ts] (fun r => r = bv (aY ts)):=by
 refine aB Tryz.func96 Tryz.ntmps96 ?_
 repeat' (first|(apply aI;(apply aA (k := 74);rfl;(apply Ca <;> (assumption));exact Pur.pf;rfl))|refine aD ?_|(refine bT ?_ ?_ <;> intro hg hq <;> try (exfalso;omega))|refine b9 ?_|fail)
 all_goals (refine ⟨?_,rfl⟩; simp only [aM,AV.v.injEq,Value.bool.injEq,Value.int.injEq,true_and])
 all_goals (unfold aY;grind)
theorem DT (p:Prg) (hl:p.types.length ≤ 1048576) (hs:aK p.body ≤ 100000000):PC Tryz.prog 57 [bZ p] (fun r => r = bv (b0 p)):=by
 rw [← Bx]
 cases ht : aY p.types
 ·refine aB Tryz.func57 Tryz.ntmps57 ?_
  repeat' (first|(apply aI;(apply aA (k := 96);rfl;(apply pJ <;> (assumption));exact Pur.pf;rfl))|refine aD ?_|refine b9 ?_|fail)
  all_goals (refine ⟨?_,rfl⟩; simp only [aM,AV.v.injEq,Value.bool.injEq,Value.int.injEq,true_and])
  all_goals grind
 ·refine aB Tryz.func57 Tryz.ntmps57 ?_
  repeat' (first|(apply aI;(first|(apply aA (k := 96);rfl;(apply pJ <;> (assumption));exact Pur.pf;rfl)|(apply oK;rfl;rfl;rfl;rfl;(rfl);(apply B9 <;> (first|assumption|omega));rfl;rfl)))|refine aD ?_|refine b9 ?_|fail)
  all_goals (refine ⟨?_,rfl⟩; simp only [aM,AV.v.injEq,Value.bool.injEq,Value.int.injEq,true_and])
  all_goals grind
theorem nH {l:List AL.Stmt}{pts:List Pnt}{m:Nat}{x0 x1:Operand}{i0:Nat}(ha0:ev (lk tsl) x0 = some (sl aF l)) (ha1:ev (lk tsl) x1 = some (.own i0 0 m 5)) (hH0:aP hsl i0 = some (flat bK pts)) (hmc:MC Tryz.prog 98 [sl aF l,.own 0 0 m 5] [(0,some (flat bK pts))] 1 (fun _:Unit => True) (fun _ => .own 1 0 (m + cA l) 5) (fun _ => [(1,some (flat bK (pts ++ eT pts.length l)))])) (hM:Nat.ble (nidl + 1) aS = true) (hN:Nat.blt d N = true){md':Md}[hmd:MdA md (iD [x0,x1] ++ [.inr i0]) (List.map Sum.inr (List.map Prod.fst ([(nidl,some (flat bK (pts ++ eT pts.length l))),(i0,none)]:List (Nat × Option (List AV)))) ++ [.inl d]) md'] (kk:RW Tryz.prog N all Q md' rest ⟨(d,.own nidl 0 (m + cA l) 5) :: tsl,kO hsl [(nidl,some (flat bK (pts ++ eT pts.length l))),(i0,none)],nidl + 1,z0⟩):RW Tryz.prog N all Q md (⟨some d,.call ⟨.value (.func 98),#[x0,x1],tys⟩,ty,pos,af,none⟩ :: rest) ⟨tsl,hsl,nidl,z0⟩:=by
 exact bR (l := [x0,x1]) [i0] 2 [(nidl,some (flat bK (pts ++ eT pts.length l))),(i0,none)] hmc (avs := [sl aF l,.own i0 0 m 5]) (by simp only [evL,ha0,ha1]) rfl hM hN (md' := md') (hmd := hmd) kk
theorem vF (mm:Nat) (hmm:mm ≤ 1048576) (pointsOf_ih:∀ l pts m,aK l < mm → m = pts.length → m + cA l ≤ 13000000 → MC Tryz.prog 98 [sl aF l,.own 0 0 m 5] [(0,some (flat bK pts))] 1 (fun _:Unit => True) (fun _ => .own 1 0 (m + cA l) 5) (fun _ => [(1,some (flat bK (pts ++ eT pts.length l)))])) (l:List AL.Stmt) (pts:List Pnt) (m:Nat) (hs:aK l ≤ mm) (hm:m = pts.length) (hb:m + cA l ≤ 13000000):MC Tryz.prog 98 [sl aF l,.own 0 0 m 5] [(0,some (flat bK pts))] 1 (fun _:Unit => True) (fun _ => .own 1 0 (m + cA l) 5) (fun _ => [(1,some (flat bK (pts ++ eT pts.length l)))]):=by
 have hlen := cD l
 subst hm
 refine bU Tryz.func98 Tryz.ntmps98 ?_
 repeat' (first|refine aD ?_|fail)
 refine AW.le ?_ (Le.mv (d := 1) (i := 0) (cs := flat bK pts) rfl rfl (by decide))
 refine aJ (σ := Nat × List Pnt × Nat) [9,10] [] (fun k => [(11,iv (k.1 : Int)),(1,.own 1 0 k.2.2 5)]) (fun k => [(1,some (flat bK k.2.1))]) (fun k => k.1 ≤ l.length ∧ k.2.1 = pts ++ eT pts.length (l.take k.1) ∧ k.2.2 = k.2.1.length ∧ k.2.2 = pts.length + cA (l.take k.1)) (fun k => l.length - k.1) (0,pts,pts.length) ⟨by omega,by simp [eT],rfl,by simp [cA]⟩ ?_
 rintro ⟨k,xs,m1⟩ ⟨hk,hxs,hm1,hm2⟩
 dsimp only at hk hxs hm1 hm2 ⊢
 have hck := dI l k
 have hct := fO l[k]!
 have hnt := z7 l k
 have n9 := C3 l[k]!
 have n10 := zL l[k]!
 have n1 := ES l[k]!
 repeat' (first|(apply aI;first|(apply aO (t := _);rfl;rfl;rfl;(first|exact (rfl:_=some [_])|exact (rfl:_=some [_,_])|exact (rfl:_=some [_,_,_,_,_]));rfl;rfl)|(apply nH;rfl;rfl;(rfl);(apply pointsOf_ih <;> (first|omega|(simp only [iM] <;> omega)));rfl;rfl))|refine aD ?_|(refine aL ?_ ?_ <;> intro hc hq <;> try (exfalso;omega))|fail)
 ·(refine a7 (k + 1, _, _) (Le.renA [(1, 8)]) ?_ ?_)
  ·dsimp only
   rw [tF hm1,uM hm1,tC (by rw [bB,hm1]),tI (by rw [bB,hm1]),eK l _ k (by omega),dR l k (by omega),fT,if_pos hq,n9 hq]
   refine ⟨by omega,?_,by simp [bB]; omega,by omega⟩
   have e1 : xs.length = pts.length + cA (l.take k) := by omega
   rw [← List.append_assoc pts,← hxs,← e1]
   simp only [List.append_assoc,List.length_append,List.length_cons,List.length_nil,bB,hm1,Nat.zero_add]
   clear pointsOf_ih hxs hck hnt n9 n10 n1
   grind
  ·dsimp only;omega
 ·(refine a7 (k + 1, _, _) (Le.renA [(1, 8)]) ?_ ?_)
  ·dsimp only
   rw [Ai hm1,zG hm1,eK l _ k (by omega),dR l k (by omega),fT,if_neg (by omega),if_pos hq,n10 hq]
   refine ⟨by omega,?_,by simp [bB]; omega,by omega⟩
   have e1 : xs.length = pts.length + cA (l.take k) := by omega
   rw [← List.append_assoc pts,← hxs,← e1]
   simp only [List.append_assoc,List.length_append,List.length_cons,List.length_nil,bB,hm1,Nat.zero_add]
   clear pointsOf_ih hxs hck hnt n9 n10 n1
   grind
  ·dsimp only;omega
 ·(refine a7 (k + 1, _, _) (Le.renA [(1, 5)]) ?_ ?_)
  ·dsimp only
   rw [eK l _ k (by omega),dR l k (by omega),fT,if_neg ‹¬l[k]!.op = 9›,if_neg hq,n1 ‹¬l[k]!.op = 9› hq]
   refine ⟨by omega,?_,by simp [bB]; omega,by omega⟩
   have e1 : xs.length = pts.length + cA (l.take k) := by omega
   rw [← List.append_assoc pts,← hxs,← e1,hm1]
  ·dsimp only;omega
 ·refine aH rfl ?_
  have e2 : l.take k = l := List.take_of_length_le (by omega)
  rw [e2] at hxs hm2
  refine bQ () trivial ?_ ⟨sE ?_,trivial⟩
  ·simp only [aM]; rw [hm2]
  ·rw [hxs]
theorem Ah (l:List AL.Stmt) (pts:List Pnt) (m:Nat) (hs:aK l ≤ 1048576) (hm:m = pts.length) (hb:m + cA l ≤ 13000000):MC Tryz.prog 98 [sl aF l,.own 0 0 m 5] [(0,some (flat bK pts))] 1 (fun _:Unit => True) (fun _ => .own 1 0 (m + cA l) 5) (fun _ => [(1,some (flat bK (pts ++ eT pts.length l)))]):=by
 have h : ∀ (mm : Nat), mm ≤ 1048576 → ∀ l pts m, aK l ≤ mm → m = pts.length → m + cA l ≤ 13000000 → MC Tryz.prog 98 [sl aF l, .own 0 0 m 5] [(0, some (flat bK pts))] 1 (fun _ : Unit => True) (fun _ => .own 1 0 (m + cA l) 5) (fun _ => [(1, some (flat bK (pts ++ eT pts.length l)))]) := by
  intro mm
  induction mm using Nat.strongRecOn with
  | ind mm ih =>
   intro h0 l pts m h1 h2 h3
   exact vF mm h0 (fun l' pts' m' g1 g2 g3 => ih _ g1 (by omega) l' pts' m' (Nat.le_refl _) g2 g3) l pts m h1 h2 h3
 exact h _ hs l pts m (Nat.le_refl _) hm hb
theorem tD {l:List AL.Stmt}{x0 x1:Operand}(ha0:ev (lk tsl) x0 = some (sl aF l)) (ha1:ev (lk tsl) x1 = some (.v (.slice none 0 0))) (hmc:MC Tryz.prog 98 [sl aF l,.v (.slice none 0 0)] [] 0 (fun _:Unit => True) (fun _ => .own 0 0 (cA l) 5) (fun _ => [(0,some (flat bK (eT 0 l)))])) (hM:Nat.ble (nidl + 1) aS = true) (hN:Nat.blt d N = true){md':Md}[hmd:MdA md (iD [x0,x1] ++ []) (List.map Sum.inr (List.map Prod.fst ([(nidl,some (flat bK (eT 0 l)))]:List (Nat × Option (List AV)))) ++ [.inl d]) md'] (kk:RW Tryz.prog N all Q md' rest ⟨(d,.own nidl 0 (cA l) 5) :: tsl,kO hsl [(nidl,some (flat bK (eT 0 l)))],nidl + 1,z0⟩):RW Tryz.prog N all Q md (⟨some d,.call ⟨.value (.func 98),#[x0,x1],tys⟩,ty,pos,af,none⟩ :: rest) ⟨tsl,hsl,nidl,z0⟩:=by
 exact bR (l := [x0,x1]) [] 1 [(nidl,some (flat bK (eT 0 l)))] hmc (avs := [sl aF l,.v (.slice none 0 0)]) (by simp only [evL,ha0,ha1]) rfl hM hN (md' := md') (hmd := hmd) kk
theorem vA (l:List AL.Stmt) (hs:aK l ≤ 1048576):MC Tryz.prog 98 [sl aF l,.v (.slice none 0 0)] [] 0 (fun _:Unit => True) (fun _ => .own 0 0 (cA l) 5) (fun _ => [(0,some (flat bK (eT 0 l)))]):=by
 have hlen := cD l
 have hn2 := jV l
 refine bU Tryz.func98 Tryz.ntmps98 ?_
 repeat' (first|refine aD ?_|fail)
 refine AW.le ?_ (Le.nilOwn (d := 1) 5 rfl (by decide))
 refine aJ (σ := Nat × List Pnt × Nat) [9,10] [] (fun k => [(11,iv (k.1 : Int)),(1,.own 0 0 k.2.2 5)]) (fun k => [(0,some (flat bK k.2.1))]) (fun k => k.1 ≤ l.length ∧ k.2.1 = eT 0 (l.take k.1) ∧ k.2.2 = k.2.1.length ∧ k.2.2 = cA (l.take k.1)) (fun k => l.length - k.1) (0,[],0) ⟨by omega,by simp [eT],rfl,by simp [cA]⟩ ?_
 rintro ⟨k,xs,m1⟩ ⟨hk,hxs,hm1,hm2⟩
 dsimp only at hk hxs hm1 hm2 ⊢
 have hck := dI l k
 have hct := fO l[k]!
 have hnt := z7 l k
 have n9 := C3 l[k]!
 have n10 := zL l[k]!
 have n1 := ES l[k]!
 repeat' (first|(apply aI;first|(apply aO (t := _);rfl;rfl;rfl;(first|exact (rfl:_=some [_])|exact (rfl:_=some [_,_])|exact (rfl:_=some [_,_,_,_,_]));rfl;rfl)|(apply nH;rfl;rfl;(rfl);(apply Ah <;> (first|omega|(simp only [iM] <;> omega)));rfl;rfl))|refine aD ?_|(refine aL ?_ ?_ <;> intro hc hq <;> try (exfalso;omega))|fail)
 ·(refine a7 (k + 1, _, _) (Le.renA [(0, 7)]) ?_ ?_)
  ·dsimp only
   rw [tF hm1,uM hm1,tC (by rw [bB,hm1]),tI (by rw [bB,hm1]),eK l _ k (by omega),dR l k (by omega),fT,if_pos hq,n9 hq]
   refine ⟨by omega,?_,by simp [bB]; omega,by omega⟩
   have e1 : cA (l.take k) = xs.length := by omega
   rw [Nat.zero_add,e1]
   rw [← hxs]
   simp only [List.append_assoc,List.length_append,List.length_cons,List.length_nil,bB,hm1,Nat.zero_add]
   clear hxs hck hnt n9 n10 n1
   grind
  ·dsimp only;omega
 ·(refine a7 (k + 1, _, _) (Le.renA [(0, 7)]) ?_ ?_)
  ·dsimp only
   rw [Ai hm1,zG hm1,eK l _ k (by omega),dR l k (by omega),fT,if_neg (by omega),if_pos hq,n10 hq]
   refine ⟨by omega,?_,by simp [bB]; omega,by omega⟩
   have e1 : cA (l.take k) = xs.length := by omega
   rw [Nat.zero_add,e1]
   rw [← hxs]
   simp only [List.append_assoc,List.length_append,List.length_cons,List.length_nil,bB,hm1,Nat.zero_add]
   clear hxs hck hnt n9 n10 n1
   grind
  ·dsimp only;omega
 ·(refine a7 (k + 1, _, _) (Le.renA [(0, 4)]) ?_ ?_)
  ·dsimp only
   rw [eK l _ k (by omega),dR l k (by omega),fT,if_neg ‹¬l[k]!.op = 9›,if_neg hq,n1 ‹¬l[k]!.op = 9› hq]
   refine ⟨by omega,?_,by simp [bB]; omega,by omega⟩
   have e1 : cA (l.take k) = xs.length := by omega
   rw [Nat.zero_add,e1]
   rw [← hxs,hm1]
  ·dsimp only;omega
 ·refine aH rfl ?_
  have e2 : l.take k = l := List.take_of_length_le (by omega)
  rw [e2] at hxs hm2
  refine bQ () trivial ?_ ⟨sE ?_,trivial⟩
  ·simp only [aM]; rw [hm2]
  ·rw [hxs]
theorem D9 (p:Prg) (hs:aK p.body ≤ 1048576):PC Tryz.prog 58 [bZ p] (fun r => r = sl bK (aC p)):=by
 have hn := jV p.body
 refine aB Tryz.func58 Tryz.ntmps58 ?_
 repeat' (first|(apply aI;first|(apply aO (t := _);rfl;rfl;rfl;(exact (rfl:_=some [_,_,_,_,_]));rfl;rfl)|(apply tD;rfl;rfl;(apply vA <;> (assumption));rfl;rfl))|refine aD ?_|fail)
 (refine aT (Le.frzD (d := 2) (i := 3) rfl rfl) ?_; refine aH rfl ?_)
 refine ⟨?_,?_⟩
 ·simp only [aM,sl,aC,List.length_append,List.length_cons,List.length_nil,bB,Nat.zero_add]
 ·(exact bC _ _)
theorem w9 {l:List AL.Stmt}{pts:List Pnt}{m:Nat}{x0 x1:Operand}{i0:Nat}(ha0:ev (lk tsl) x0 = some (.own i0 0 m 5)) (ha1:ev (lk tsl) x1 = some (sl aF l)) (hH0:aP hsl i0 = some (flat bK pts)) (hmc:MC Tryz.prog 54 [.own 0 0 m 5,sl aF l] [(0,some (flat bK pts))] 1 (fun _:Unit => True) (fun _ => .own 1 0 (m + cA l) 5) (fun _ => [(1,some (flat bK (pts ++ eT pts.length l)))])) (hM:Nat.ble (nidl + 1) aS = true) (hN:Nat.blt d N = true){md':Md}[hmd:MdA md (iD [x0,x1] ++ [.inr i0]) (List.map Sum.inr (List.map Prod.fst ([(nidl,some (flat bK (pts ++ eT pts.length l))),(i0,none)]:List (Nat × Option (List AV)))) ++ [.inl d]) md'] (kk:RW Tryz.prog N all Q md' rest ⟨(d,.own nidl 0 (m + cA l) 5) :: tsl,kO hsl [(nidl,some (flat bK (pts ++ eT pts.length l))),(i0,none)],nidl + 1,z0⟩):RW Tryz.prog N all Q md (⟨some d,.call ⟨.value (.func 54),#[x0,x1],tys⟩,ty,pos,af,none⟩ :: rest) ⟨tsl,hsl,nidl,z0⟩:=by
 exact bR (l := [x0,x1]) [i0] 2 [(nidl,some (flat bK (pts ++ eT pts.length l))),(i0,none)] hmc (avs := [.own i0 0 m 5,sl aF l]) (by simp only [evL,ha0,ha1]) rfl hM hN (md' := md') (hmd := hmd) kk
theorem DU (mm:Nat) (hmm:mm ≤ 1048576) (l2Add_ih:∀ l pts m,aK l < mm → m = pts.length → m + cA l ≤ 13000000 → MC Tryz.prog 54 [.own 0 0 m 5,sl aF l] [(0,some (flat bK pts))] 1 (fun _:Unit => True) (fun _ => .own 1 0 (m + cA l) 5) (fun _ => [(1,some (flat bK (pts ++ eT pts.length l)))])) (l:List AL.Stmt) (pts:List Pnt) (m:Nat) (hs:aK l ≤ mm) (hm:m = pts.length) (hb:m + cA l ≤ 13000000):MC Tryz.prog 54 [.own 0 0 m 5,sl aF l] [(0,some (flat bK pts))] 1 (fun _:Unit => True) (fun _ => .own 1 0 (m + cA l) 5) (fun _ => [(1,some (flat bK (pts ++ eT pts.length l)))]):=by
 have hlen := cD l
 subst hm
 refine bU Tryz.func54 Tryz.ntmps54 ?_
 repeat' (first|refine aD ?_|fail)
 refine AW.le ?_ (Le.mv (d := 0) (i := 0) (cs := flat bK pts) rfl rfl (by decide))
 refine aJ (σ := Nat × List Pnt × Nat) [1] [] (fun k => [(5,iv (k.1 : Int)),(0,.own 1 0 k.2.2 5)]) (fun k => [(1,some (flat bK k.2.1))]) (fun k => k.1 ≤ l.length ∧ k.2.1 = pts ++ eT pts.length (l.take k.1) ∧ k.2.2 = k.2.1.length ∧ k.2.2 = pts.length + cA (l.take k.1)) (fun k => l.length - k.1) (0,pts,pts.length) ⟨by omega,by simp [eT],rfl,by simp [cA]⟩ ?_
 rintro ⟨k,xs,m1⟩ ⟨hk,hxs,hm1,hm2⟩
 dsimp only at hk hxs hm1 hm2 ⊢
 have hck := dI l k
 have hct := fO l[k]!
 have hnt := z7 l k
 have n9 := C3 l[k]!
 have n10 := zL l[k]!
 have n1 := ES l[k]!
 repeat' (first|(apply aI;first|(apply aO (t := _);rfl;rfl;rfl;(first|exact (rfl:_=some [_])|exact (rfl:_=some [_,_])|exact (rfl:_=some [_,_,_,_,_]));rfl;rfl)|(apply w9;rfl;rfl;(rfl);(apply l2Add_ih <;> (first|omega|(simp only [iM] <;> omega)));rfl;rfl))|refine aD ?_|(refine aL ?_ ?_ <;> intro hc hq <;> try (exfalso;omega))|fail)
 ·(refine a7 (k + 1, _, _) (Le.renA [(1, 8)]) ?_ ?_)
  ·dsimp only
   rw [tC (by rw [bB,hm1]),tI (by rw [bB,hm1]),tF hm1,uM hm1,eK l _ k (by omega),dR l k (by omega),fT,if_pos hq,n9 hq]
   refine ⟨by omega,?_,by simp [bB]; omega,by omega⟩
   have e1 : xs.length = pts.length + cA (l.take k) := by omega
   rw [← List.append_assoc pts,← hxs,← e1]
   simp only [List.append_assoc,List.length_append,List.length_cons,List.length_nil,bB,hm1,Nat.zero_add]
   clear l2Add_ih hxs hck hnt n9 n10 n1
   grind
  ·dsimp only;omega
 ·(refine a7 (k + 1, _, _) (Le.renA [(1, 8)]) ?_ ?_)
  ·dsimp only
   rw [Ai hm1,zG hm1,eK l _ k (by omega),dR l k (by omega),fT,if_neg (by omega),if_pos hq,n10 hq]
   refine ⟨by omega,?_,by simp [bB]; omega,by omega⟩
   have e1 : xs.length = pts.length + cA (l.take k) := by omega
   rw [← List.append_assoc pts,← hxs,← e1]
   simp only [List.append_assoc,List.length_append,List.length_cons,List.length_nil,bB,hm1,Nat.zero_add]
   clear l2Add_ih hxs hck hnt n9 n10 n1
   grind
  ·dsimp only;omega
 ·(refine a7 (k + 1, _, _) (Le.renA [(1, 5)]) ?_ ?_)
  ·dsimp only
   rw [eK l _ k (by omega),dR l k (by omega),fT,if_neg ‹¬l[k]!.op = 9›,if_neg hq,n1 ‹¬l[k]!.op = 9› hq]
   refine ⟨by omega,?_,by simp [bB]; omega,by omega⟩
   have e1 : xs.length = pts.length + cA (l.take k) := by omega
   rw [← List.append_assoc pts,← hxs,← e1,hm1]
  ·dsimp only;omega
 ·refine aH rfl ?_
  have e2 : l.take k = l := List.take_of_length_le (by omega)
  rw [e2] at hxs hm2
  refine bQ () trivial ?_ ⟨sE ?_,trivial⟩
  ·simp only [aM]; rw [hm2]
  ·rw [hxs]
theorem Hk (l:List AL.Stmt) (pts:List Pnt) (m:Nat) (hs:aK l ≤ 1048576) (hm:m = pts.length) (hb:m + cA l ≤ 13000000):MC Tryz.prog 54 [.own 0 0 m 5,sl aF l] [(0,some (flat bK pts))] 1 (fun _:Unit => True) (fun _ => .own 1 0 (m + cA l) 5) (fun _ => [(1,some (flat bK (pts ++ eT pts.length l)))]):=by
 have h : ∀ (mm : Nat), mm ≤ 1048576 → ∀ l pts m, aK l ≤ mm → m = pts.length → m + cA l ≤ 13000000 → MC Tryz.prog 54 [.own 0 0 m 5, sl aF l] [(0, some (flat bK pts))] 1 (fun _ : Unit => True) (fun _ => .own 1 0 (m + cA l) 5) (fun _ => [(1, some (flat bK (pts ++ eT pts.length l)))]) := by
  intro mm
  induction mm using Nat.strongRecOn with
  | ind mm ih =>
   intro h0 l pts m h1 h2 h3
   exact DU mm h0 (fun l' pts' m' g1 g2 g3 => ih _ g1 (by omega) l' pts' m' (Nat.le_refl _) g2 g3) l pts m h1 h2 h3
 exact h _ hs l pts m (Nat.le_refl _) hm hb
theorem fB (p:Prg) (hs:aK p.body ≤ 1048576):PC Tryz.prog 23 [bZ p] (fun r => r = sl bK (aC p)):=by
 have hn := jV p.body
 have e0 : ([] : List AV) = flat bK [] := rfl
 refine aB Tryz.func23 Tryz.ntmps23 ?_
 repeat' (first|(apply aI;(apply w9;rfl;rfl;(exact Cf rfl);(apply Hk <;> (first|assumption|omega|(simp only [iM] <;> omega)));rfl;rfl))|refine aD ?_|fail)
 (refine aT (Le.frzD (d := 2) (i := 4) rfl rfl) ?_; refine aH rfl ?_)
 refine ⟨?_,(by (exact bC _ _))⟩
 simp only [aM,sl,aC,List.length_append,List.length_cons,List.length_nil,bB,Nat.zero_add,List.nil_append]
theorem Bb (ts:List Int) (bd:List AL.Stmt) (pts:List Pnt) (v:Int) (h:0 ≤ v ∧ v < ts.length):PC Tryz.prog 146 [aG ts bd pts,iv v] (fun r => r = bv (Ic ts[v.toNat]!)):=by
 refine aB Tryz.func146 Tryz.ntmps146 ?_
 repeat' (first|refine aD ?_|(refine bT ?_ ?_ <;> intro hg hq <;> try (exfalso;omega))|refine b9 ?_|fail)
 all_goals (refine ⟨?_,rfl⟩; simp only [aM,AV.v.injEq,Value.bool.injEq,Value.int.injEq,true_and])
 all_goals grind [Ic]
theorem JM (ts:List Int) (bd:List AL.Stmt) (pts:List Pnt) (x:Pnt) (v:Int) (h:0 ≤ v ∧ v < ts.length):PC Tryz.prog 138 [aG ts bd pts,lL x,iv v] (fun r => r = iv (aU ts x v)):=by
 refine aB Tryz.func138 Tryz.ntmps138 ?_
 repeat' (first|(apply aI;(apply aA (k := 146);rfl;(apply Bb <;> (assumption));exact Pur.pf;rfl))|refine aD ?_|(refine aL ?_ ?_ <;> intro hc hq <;> try (exfalso;omega))|(refine bT ?_ ?_ <;> intro hg hq <;> try (exfalso;omega))|refine b9 ?_|fail)
 all_goals (refine ⟨?_,rfl⟩; simp only [aM,AV.v.injEq,Value.bool.injEq,Value.int.injEq,true_and])
 all_goals grind [Ic,aU]
theorem tX (x:Pnt):PC Tryz.prog 127 [lL x] (fun r => r = iv (aN x)):=by
 refine aB Tryz.func127 Tryz.ntmps127 ?_
 repeat' (first|refine aD ?_|(refine aL ?_ ?_ <;> intro hc hq <;> try (exfalso;omega))|refine b9 ?_|fail)
 all_goals (refine ⟨?_,rfl⟩; simp only [aM,AV.v.injEq,Value.bool.injEq,Value.int.injEq,true_and])
 all_goals grind [aN]
theorem kB (x:Pnt):PC Tryz.prog 128 [lL x] (fun r => r = bv (bI x)):=by
 refine aB Tryz.func128 Tryz.ntmps128 ?_
 repeat' (first|refine aD ?_|(refine bT ?_ ?_ <;> intro hg hq <;> try (exfalso;omega))|refine b9 ?_|fail)
 all_goals (refine ⟨?_,rfl⟩; simp only [aM,AV.v.injEq,Value.bool.injEq,Value.int.injEq,true_and])
 all_goals grind [bI]
theorem l3 (x:Pnt) (h:aN x < 62):PC Tryz.prog 133 [lL x] (fun r => r = iv (fU x:Nat)):=by
 refine aB Tryz.func133 Tryz.ntmps133 ?_
 repeat' (first|(apply aI;first|(apply gS;rfl;rfl;infer_instance;omega;rfl;(case' kk => intro hsm))|(apply aA (k := 127);rfl;(apply tX);exact Pur.pf;rfl))|refine aD ?_|(refine aL ?_ ?_ <;> intro hc hq <;> try (exfalso;omega))|refine b9 ?_|fail)
 all_goals (refine ⟨?_,rfl⟩; simp only [aM,AV.v.injEq,Value.bool.injEq,Value.int.injEq,true_and])
 all_goals (unfold fU)
 ·rw [if_pos (by omega)]
 ·rw [if_neg (by omega)]; rfl
theorem JC (ts:List Int) (bd:List AL.Stmt) (pts:List Pnt) (h:ts.length ≤ 6):PC Tryz.prog 145 [aG ts bd pts] (fun r => r = iv ((2 ^ ts.length - 1:Nat):Int)):=by
 have h1 : 2 ^ ts.length ≤ 2 ^ 6 := Nat.pow_le_pow_right (by decide) h
 have h2 : 0 < 2 ^ ts.length := Nat.pow_pos (by decide)
 have h3 : 2 ^ (ts.length : Int).toNat ≤ 2 ^ 6 := h1
 have h4 : 2 ^ (ts.length : Int).toNat = 2 ^ ts.length := rfl
 refine aB Tryz.func145 Tryz.ntmps145 ?_
 repeat' (first|(apply aI;(apply gS;rfl;rfl;infer_instance;omega;rfl;(case' kk => intro hsm)))|refine aD ?_|refine b9 ?_|fail)
 all_goals (refine ⟨?_,rfl⟩; simp only [aM,AV.v.injEq,Value.bool.injEq,Value.int.injEq,true_and])
 omega
def Dt (xs : List Int) (v : Int) : Int := match xs.findIdx? (fun t => decide (t = v)) with | some i => i | none => -1
theorem GM (xs:List Int) (v:Int) (hl:xs.length ≤ 1048576):PC Tryz.prog 85 [sl cI xs,iv v] (fun r => r = iv (Dt xs v)):=by
 refine aB Tryz.func85 Tryz.ntmps85 ?_
 repeat' (first|refine aD ?_|fail)
 refine aJ (σ := Nat) [0,1,7] [] (fun k => [(8,iv (k : Int))]) (fun k => []) (fun k => k ≤ xs.length ∧ ∀ i,i < k → xs[i]! ≠ v) (fun k => xs.length - k) (0) ⟨by omega,by omega⟩ ?_
 intro k ⟨hk,hall⟩
 repeat' (first|refine aD ?_|(refine aL ?_ ?_ <;> intro hc hq <;> try (exfalso;omega))|refine b9 ?_|fail)
 ·(refine ⟨?_, rfl⟩; simp only [aM, AV.v.injEq, Value.bool.injEq, Value.int.injEq, true_and])
  have hlt : k < xs.length := by omega
  have : xs.findIdx? (fun t => decide (t = v)) = some k := by
   rw [List.findIdx?_eq_some_iff_getElem]
   refine ⟨hlt,?_,fun j hj => ?_⟩
   ·rw [← bE xs k hlt]; grind
   ·have := hall j hj;rw [bE xs j (by omega)] at this;simpa using this
  simp only [Dt,this]
 ·(refine a7 (k + 1) (Le.renA []) ?_ ?_)
  ·grind
  ·omega
 ·(refine ⟨?_, rfl⟩; simp only [aM, AV.v.injEq, Value.bool.injEq, Value.int.injEq, true_and])
  have : xs.findIdx? (fun t => decide (t = v)) = none := by
   rw [List.findIdx?_eq_none_iff]
   intro x hx
   obtain ⟨i,hi,rfl⟩ := List.getElem_of_mem hx
   have := hall i (by omega);rw [bE xs i hi] at this;simpa using this
  simp only [Dt,this]
theorem Hf (xs:List Int) (v:Int):decide (0 ≤ Dt xs v) = decide (v ∈ xs):=by
 unfold Dt
 split
 ·rename_i i h
  obtain ⟨h1,h2,_⟩ := List.findIdx?_eq_some_iff_getElem.1 h
  simp only [decide_eq_true_eq] at h2
  have : v ∈ xs := by rw [← h2]; exact List.getElem_mem h1
  simp [this]
 ·rename_i h
  rw [List.findIdx?_eq_none_iff] at h
  have : v ∉ xs := fun hm => by have := h v hm;simp at this
  simp [this]
theorem yZ (xs:List Int) (v:Int) (hl:xs.length ≤ 1048576):PC Tryz.prog 48 [sl cI xs,iv v] (fun r => r = bv (decide (v ∈ xs))):=by
 refine aB Tryz.func48 Tryz.ntmps48 ?_
 repeat' (first|(apply aI;(apply aA (k := 85);rfl;(apply GM <;> (assumption));exact Pur.pf;rfl))|refine aD ?_|refine b9 ?_|fail)
 (refine ⟨?_,rfl⟩; simp only [aM,AV.v.injEq,Value.bool.injEq,Value.int.injEq,true_and])
 exact Hf xs v
theorem A8 (ts:List Int) (bd:List AL.Stmt) (pts:List Pnt) (x:Pnt) (us:List Int) (h:ts.length ≤ 6) (hu:us.length ≤ 1000):PC Tryz.prog 115 [aG ts bd pts,lL x,sl cI us] (fun r => r = iv (wS ts x us:Nat)):=by
 refine aB Tryz.func115 Tryz.ntmps115 ?_
 repeat' (first|refine aD ?_|fail)
 refine aJ (σ := Nat × Nat) [0,2,4,14] [0] (fun k => [(15,iv (k.1 : Int)),(7,iv (k.2 : Int))]) (fun k => []) (fun k => k.1 ≤ ts.length ∧ k.2 = dK (fun v => decide (aU ts x v ∈ us)) k.1) (fun k => ts.length - k.1) (0,0) ⟨by omega,rfl⟩ ?_
 rintro ⟨k,A⟩ ⟨hk,hA⟩
 dsimp only at hk hA ⊢
 have hsm : Sm A := hA ▸ dG (by omega)
 repeat' (first|(apply aI;first|(apply gS;rfl;rfl;infer_instance;omega;rfl;(case' kk => intro hsm))|(first|(apply aA (k := 48);rfl;(apply yZ <;> (omega));exact Pur.pf;rfl)|(apply aA (k := 138);rfl;(apply JM <;> (omega));exact Pur.pf;rfl)))|refine aD ?_|(refine aL ?_ ?_ <;> intro hc hq <;> try (exfalso;omega))|refine b9 ?_|fail)
 ·(refine a7 (k + 1, _) (Le.renA [(0, 0)]) ?_ ?_)
  ·dsimp only
   rw [hA]
   exact ⟨by omega,nS _ _ (by simpa using hq)⟩
  ·dsimp only;omega
 ·(refine a7 (k + 1, _) (Le.renA [(0, 0)]) ?_ ?_)
  ·dsimp only
   rw [hA]
   exact ⟨by omega,jN _ _ (by simpa using hq)⟩
  ·dsimp only;omega
 ·(refine ⟨?_, rfl⟩; simp only [aM, AV.v.injEq, Value.bool.injEq, Value.int.injEq, true_and])
  rw [hA,show k = ts.length by omega]; rfl
theorem Fo (ts:List Int) (bd:List AL.Stmt) (pts:List Pnt) (x:Pnt) (h:ts.length ≤ 6):PC Tryz.prog 76 [aG ts bd pts,lL x] (fun r => r = iv (wS ts x [1,2,3]:Nat)):=by
 refine aB Tryz.func76 Tryz.ntmps76 ?_
 repeat' (first|(apply aI;first|(apply aO (t := _);rfl;rfl;rfl;(exact (rfl:_=some [_,_,_]));rfl;rfl)|(apply aA (k := 115);rfl;(apply A8 (us := [1,2,3]) <;> (first|assumption|decide));exact Pur.pf;rfl))|refine aD ?_|refine b9 ?_|fail)
 (refine ⟨?_,rfl⟩; simp only [aM,AV.v.injEq,Value.bool.injEq,Value.int.injEq,true_and])
theorem oI (ts:List Int) (bd:List AL.Stmt) (pts:List Pnt) (x:Pnt) (h:ts.length ≤ 6):PC Tryz.prog 126 [aG ts bd pts,lL x] (fun r => r = iv (wS ts x [2]:Nat)):=by
 refine aB Tryz.func126 Tryz.ntmps126 ?_
 repeat' (first|(apply aI;first|(apply aO (t := _);rfl;rfl;rfl;exact (rfl:_=some [_]);rfl;rfl)|(apply aA (k := 115);rfl;(apply A8 (us := [2]) <;> (first|assumption|decide));exact Pur.pf;rfl))|refine aD ?_|refine b9 ?_|fail)
 (refine ⟨?_,rfl⟩; simp only [aM,AV.v.injEq,Value.bool.injEq,Value.int.injEq,true_and])
theorem xG (ts:List Int) (bd:List AL.Stmt) (pts:List Pnt) (i:Int) (A:Nat) (h:WG ts pts) (hi:0 ≤ i ∧ i < pts.length) (hA:Sm A):PC Tryz.prog 131 [aG ts bd pts,iv i,iv (A:Int)] (fun r => r = iv (fH ts pts[i.toNat]! A:Nat)):=by
 have htl := h.tl
 have hst := (h.set i.toNat (by omega)).1
 have hs1 : Sm (wS ts pts[i.toNat]! [2]) := dG (by omega)
 have hs2 : Sm (fU pts[i.toNat]!) := n7 (by omega)
 refine aB Tryz.func131 Tryz.ntmps131 ?_
 repeat' (first|(apply aI;(first|(apply aA (k := 126);rfl;(apply oI <;> (assumption));exact Pur.pf;rfl)|(apply aA (k := 133);rfl;(apply l3 <;> (omega));exact Pur.pf;rfl)))|refine aD ?_|refine bV ?_|refine b9 ?_|fail)
 (refine ⟨?_,rfl⟩; simp only [aM,AV.v.injEq,Value.bool.injEq,Value.int.injEq,true_and])
 rfl
theorem y7 (ts:List Int) (bd:List AL.Stmt) (pts:List Pnt) (A:List Nat) (w:WG ts pts) (hA:nX ts pts A):PC Tryz.prog 130 [aG ts bd pts,iv 0,bv false,.clos (.func 131) [aG ts bd pts] []] (fun r => r = .imm pts.length (flat cN A)):=by
 have hpl := w.pl
 have hp0 := w.p0
 have htl := w.tl
 have fl := JE w
 refine aB Tryz.func130 Tryz.ntmps130 ?_
 repeat' (first|refine aD ?_|fail)
 refine aJ (σ := List Nat × Bool) [0,2,3,9] [] (fun s => [(11,bv s.2)]) (fun s => [(0,some (flat cN s.1))]) (fun s => SG pts (JF ts pts) s.1 ∧ True ∧ (s.2 = false → jF lD (fun i A => fH ts pts[i]! A) pts s.1)) (fun s => 2 * dQ (s.1.map (fun a => 2 ^ ts.length - a)) + s.2.toNat) (((List.replicate pts.length 0).set 0 0),true) ⟨by rw [Dh (by rw [bE _ _ (by simpa using hp0),List.getElem_replicate]) (by simpa using hp0)]; exact yV fun i hi => ⟨Nat.pow_pos (by decide),fun v h => by simp at h⟩,trivial,fun h => by cases h⟩ ?_
 rintro ⟨s,b⟩ ⟨hS,hE,hC⟩
 dsimp only at hS hE hC ⊢
 repeat' (first|refine aD ?_|(refine aL ?_ ?_ <;> intro hc hq <;> try (exfalso;omega))|fail)
 ·refine aJ (σ := Nat × (List Nat × Bool)) [0, 2, 3, 9, 43, 44] [] (fun k => [(45, iv (k.1 : Int)), (11, bv k.2.2)]) (fun k => [(0, some (flat cN k.2.1))]) (fun k => k.1 ≤ pts.length ∧ k.2 = (List.range k.1).foldl (s7 lD (fun i A => fH ts pts[i]! A) pts) (s, false) ∧ SG pts (JF ts pts) k.2.1 ∧ True) (fun k => pts.length - k.1) (0, (s, false)) ⟨by omega, rfl, hS, hE⟩ ?_
  rintro ⟨k,u,c⟩ ⟨hk,hf,hS2,hE2⟩
  dsimp only at hk hf hS2 hE2 ⊢
  have hsm : ∀ z,Sm u[z]! := pK hS2 (fun i A h => h.1) htl
  have hul := hS2.1
  repeat' (first|(apply aI;(apply l9;rfl;rfl;infer_instance;rfl;(apply xG <;> (first|assumption|omega|infer_instance));exact Pur.pf;rfl))|refine aD ?_|(refine aL ?_ ?_ <;> intro hc hq <;> try (exfalso;omega))|fail)
  ·have hkn : k < pts.length := by omega
   have hv := oJ w hkn (hS2.2 k hkn).1
   have hvs : Sm (fH ts pts[k]! u[k]!) := ⟨Nat.lt_of_lt_of_le hv (Nat.pow_le_pow_right (by decide) (by omega))⟩
   have hvs' : Sm (fH ts pts[(k : Int).toNat]! u[k]!) := hvs
   have hnl := w.nl k hkn
   refine aJ (σ := Nat × (List Nat × Bool)) [0,2,3,9,14,43,44,45,58,59] [] (fun j => [(60,iv (j.1 : Int)),(11,bv j.2.2)]) (fun j => [(0,some (flat cN j.2.1))]) (fun j => j.1 ≤ pts[k]!.next.length ∧ j.2 = ((qL pts k).take j.1).foldl (jC lD (fH ts pts[k]! u[k]!)) (u,c) ∧ SG pts (JF ts pts) j.2.1 ∧ True) (fun j => pts[k]!.next.length - j.1) (0,(u,c)) ⟨by omega,rfl,hS2,hE2⟩ ?_
   rintro ⟨j,u2,c2⟩ ⟨hj,hf2,hS3,hE3⟩
   dsimp only at hj hf2 hS3 hE3 ⊢
   have hsm2 : ∀ z,Sm u2[z]! := pK hS3 (fun i A h => h.1) htl
   have hul2 := hS3.1
   have hz : j < pts[k]!.next.length → 0 ≤ pts[k]!.next[j]! ∧ pts[k]!.next[j]! < pts.length := fun h => w.nx k hkn _ (bD _ _ h)
   repeat' (first|refine aD ?_|(refine aL ?_ ?_ <;> intro hc hq <;> try (exfalso;omega))|fail)
   ·have hzz := hz (by omega)
    have hed : cQ pts k (pts[k]!.next[j]!).toNat := ⟨hkn,by rw [Int.toNat_of_nonneg hzz.1]; exact bD _ _ (by omega)⟩
    have hne : lD u2[(pts[k]!.next[j]!).toNat]! (fH ts pts[k]! u[k]!) ≠ u2[(pts[k]!.next[j]!).toNat]! := fun h => hq (congrArg Int.ofNat h)
    (refine a7 (j + 1,(_,true)) (Le.renA [(0,0)]) ?_ ?_)
    ·dsimp only
     refine ⟨by omega,?_,uB fl w (hS2.2 k hkn) hed hS3,trivial⟩
     rw [fY (by omega),← hf2,tQ hne]; rfl
    ·dsimp only;omega
   ·have hzz := hz (by omega)
    have hne : lD u2[(pts[k]!.next[j]!).toNat]! (fH ts pts[k]! u[k]!) = u2[(pts[k]!.next[j]!).toNat]! := Int.ofNat.inj hq
    (refine a7 (j + 1,(u2,c2)) (Le.renA [(0,0)]) ?_ ?_)
    ·dsimp only
     refine ⟨by omega,?_,hS3,hE3⟩
     rw [fY (by omega),← hf2,uR hne]
    ·dsimp only;omega
   ·(refine a7 (k + 1, (u2, c2)) (Le.renA [(0, 0)]) ?_ ?_)
    ·dsimp only
     refine ⟨by omega,?_,hS3,hE3⟩
     rw [cV,← hf,hf2,List.take_of_length_le (by rw [iS]; omega)]; rfl
    ·dsimp only;omega
  ·have law := pN w fl s false hS
   have hfull : (u, c) = sX lD (fun i A => fH ts pts[i]! A) pts (s, false) := by
    rw [hf,show k = pts.length by omega]; rfl
   rw [show sX (fun a s => lD a s) (fun i A => fH ts pts[i]! A) pts (s,false) = (u,c) from hfull.symm] at law
   (refine a7 (u,c) (Le.renA [(0,0)]) ?_ ?_)
   ·dsimp only
    refine ⟨hS2,hE2,fun h => ?_⟩
    rcases law.2 with ⟨e1,e2⟩ | ⟨e1,_⟩
    ·cases e1;exact e2
    ·dsimp only at e1;rw [h] at e1;cases e1
   ·dsimp only
    have hb : b = true := by assumption
    subst hb
    rcases law.2 with ⟨e1,e2⟩ | ⟨e1,e2⟩
    ·cases e1;simp
    ·dsimp only at e1 e2;subst e1;omega
 ·have hb : b = false := by assumption
  refine aT (Le.frzD (d := 8) (i := 0) rfl rfl) ?_
  refine aH rfl ⟨?_,(by (exact bC _ _))⟩
  simp only [aM]
  rw [CT hA (EK w hS (hC hb))]
theorem Ab (ts:List Int) (bd:List AL.Stmt) (pts:List Pnt) (A:List Nat) (w:WG ts pts) (hA:nR ts pts A):PC Tryz.prog 130 [aG ts bd pts,iv 0,bv true,.clos (.func 131) [aG ts bd pts] []] (fun r => r = .imm pts.length (flat cN A)):=by
 have hpl := w.pl
 have hp0 := w.p0
 have htl := w.tl
 have fl := JJ w
 refine aB Tryz.func130 Tryz.ntmps130 ?_
 repeat' (first|refine aD ?_|fail)
 refine aJ (σ := Nat × List Nat) [0,1,2,3,9,26] [] (fun k => [(27,iv (k.1 : Int))]) (fun k => [(0,some (flat cN k.2))]) (fun k => k.1 ≤ pts.length ∧ k.2 = List.replicate k.1 (2 ^ ts.length - 1) ++ List.replicate (pts.length - k.1) 0) (fun k => pts.length - k.1) (0,List.replicate pts.length 0) ⟨by omega,by simp⟩ ?_
 rintro ⟨k0,u0⟩ ⟨hk0,hu0⟩
 dsimp only at hk0 hu0 ⊢
 have hul0 : u0.length = pts.length := by rw [hu0]; simp;omega
 repeat' (first|(apply aI;(apply aA (k := 145);rfl;(apply JC <;> (assumption));exact Pur.pf;rfl))|refine aD ?_|(refine aL ?_ ?_ <;> intro hc hq <;> try (exfalso;omega))|fail)
 ·(refine a7 (k0 + 1, _) (Le.renA [(0, 0)]) ?_ ?_)
  ·dsimp only
   exact ⟨by omega,by rw [hu0]; exact FV (by omega)⟩
  ·dsimp only;omega
 have hk1 : k0 = pts.length := by omega
 subst hk1
 rw [Nat.sub_self,List.replicate_zero,List.append_nil] at hu0
 refine aJ (σ := List Nat × Bool) [0,2,3,9] [] (fun s => [(11,bv s.2)]) (fun s => [(0,some (flat cN s.1))]) (fun s => SG pts (Jn ts pts) s.1 ∧ s.1[0]! = 0 ∧ (s.2 = false → jF Jc (fun i A => fH ts pts[i]! A) pts s.1)) (fun s => 2 * dQ (s.1.map (fun a => a)) + s.2.toNat) ((u0.set 0 0),true) ⟨(CX w hu0).1,(CX w hu0).2,fun h => by cases h⟩ ?_
 rintro ⟨s,b⟩ ⟨hS,hE,hC⟩
 dsimp only at hS hE hC ⊢
 repeat' (first|refine aD ?_|(refine aL ?_ ?_ <;> intro hc hq <;> try (exfalso;omega))|fail)
 ·refine aJ (σ := Nat × (List Nat × Bool)) [0, 2, 3, 9, 43, 44] [] (fun k => [(45, iv (k.1 : Int)), (11, bv k.2.2)]) (fun k => [(0, some (flat cN k.2.1))]) (fun k => k.1 ≤ pts.length ∧ k.2 = (List.range k.1).foldl (s7 Jc (fun i A => fH ts pts[i]! A) pts) (s, false) ∧ SG pts (Jn ts pts) k.2.1 ∧ k.2.1[0]! = 0) (fun k => pts.length - k.1) (0, (s, false)) ⟨by omega, rfl, hS, hE⟩ ?_
  rintro ⟨k,u,c⟩ ⟨hk,hf,hS2,hE2⟩
  dsimp only at hk hf hS2 hE2 ⊢
  have hsm : ∀ z,Sm u[z]! := pK hS2 (fun i A h => h.1) htl
  have hul := hS2.1
  repeat' (first|(apply aI;(apply l9;rfl;rfl;infer_instance;rfl;(apply xG <;> (first|assumption|omega|infer_instance));exact Pur.pf;rfl))|refine aD ?_|(refine aL ?_ ?_ <;> intro hc hq <;> try (exfalso;omega))|fail)
  ·have hkn : k < pts.length := by omega
   have hv := oJ w hkn (hS2.2 k hkn).1
   have hvs : Sm (fH ts pts[k]! u[k]!) := ⟨Nat.lt_of_lt_of_le hv (Nat.pow_le_pow_right (by decide) (by omega))⟩
   have hvs' : Sm (fH ts pts[(k : Int).toNat]! u[k]!) := hvs
   have hnl := w.nl k hkn
   refine aJ (σ := Nat × (List Nat × Bool)) [0,2,3,9,14,43,44,45,58,59] [] (fun j => [(60,iv (j.1 : Int)),(11,bv j.2.2)]) (fun j => [(0,some (flat cN j.2.1))]) (fun j => j.1 ≤ pts[k]!.next.length ∧ j.2 = ((qL pts k).take j.1).foldl (jC Jc (fH ts pts[k]! u[k]!)) (u,c) ∧ SG pts (Jn ts pts) j.2.1 ∧ j.2.1[0]! = 0) (fun j => pts[k]!.next.length - j.1) (0,(u,c)) ⟨by omega,rfl,hS2,hE2⟩ ?_
   rintro ⟨j,u2,c2⟩ ⟨hj,hf2,hS3,hE3⟩
   dsimp only at hj hf2 hS3 hE3 ⊢
   have hsm2 : ∀ z,Sm u2[z]! := pK hS3 (fun i A h => h.1) htl
   have hul2 := hS3.1
   have hz : j < pts[k]!.next.length → 0 ≤ pts[k]!.next[j]! ∧ pts[k]!.next[j]! < pts.length := fun h => w.nx k hkn _ (bD _ _ h)
   repeat' (first|refine aD ?_|(refine aL ?_ ?_ <;> intro hc hq <;> try (exfalso;omega))|fail)
   ·have hzz := hz (by omega)
    have hed : cQ pts k (pts[k]!.next[j]!).toNat := ⟨hkn,by rw [Int.toNat_of_nonneg hzz.1]; exact bD _ _ (by omega)⟩
    have hne : Jc u2[(pts[k]!.next[j]!).toNat]! (fH ts pts[k]! u[k]!) ≠ u2[(pts[k]!.next[j]!).toNat]! := fun h => hq (congrArg Int.ofNat h)
    (refine a7 (j + 1,(_,true)) (Le.renA [(0,0)]) ?_ ?_)
    ·dsimp only
     refine ⟨by omega,?_,uB fl w (hS2.2 k hkn) hed hS3,(by rw [cC _ _ _ _ (by rw [hS3.1]; exact cG w hed)]; split <;> first|exact hE3|(rename_i q;rw [← q,hE3]; exact Nat.zero_and _))⟩
     rw [fY (by omega),← hf2,tQ hne]; rfl
    ·dsimp only;omega
   ·have hzz := hz (by omega)
    have hne : Jc u2[(pts[k]!.next[j]!).toNat]! (fH ts pts[k]! u[k]!) = u2[(pts[k]!.next[j]!).toNat]! := Int.ofNat.inj hq
    (refine a7 (j + 1,(u2,c2)) (Le.renA [(0,0)]) ?_ ?_)
    ·dsimp only
     refine ⟨by omega,?_,hS3,hE3⟩
     rw [fY (by omega),← hf2,uR hne]
    ·dsimp only;omega
   ·(refine a7 (k + 1, (u2, c2)) (Le.renA [(0, 0)]) ?_ ?_)
    ·dsimp only
     refine ⟨by omega,?_,hS3,hE3⟩
     rw [cV,← hf,hf2,List.take_of_length_le (by rw [iS]; omega)]; rfl
    ·dsimp only;omega
  ·have law := pN w fl s false hS
   have hfull : (u, c) = sX Jc (fun i A => fH ts pts[i]! A) pts (s, false) := by
    rw [hf,show k = pts.length by omega]; rfl
   rw [show sX (fun a s => Jc a s) (fun i A => fH ts pts[i]! A) pts (s,false) = (u,c) from hfull.symm] at law
   (refine a7 (u,c) (Le.renA [(0,0)]) ?_ ?_)
   ·dsimp only
    refine ⟨hS2,hE2,fun h => ?_⟩
    rcases law.2 with ⟨e1,e2⟩ | ⟨e1,_⟩
    ·cases e1;exact e2
    ·dsimp only at e1;rw [h] at e1;cases e1
   ·dsimp only
    have hb : b = true := by assumption
    subst hb
    rcases law.2 with ⟨e1,e2⟩ | ⟨e1,e2⟩
    ·cases e1;simp
    ·dsimp only at e1 e2;subst e1;omega
 ·have hb : b = false := by assumption
  refine aT (Le.frzD (d := 8) (i := 0) rfl rfl) ?_
  refine aH rfl ⟨?_,(by (exact bC _ _))⟩
  simp only [aM]
  rw [Ce hA (Ea w hS hE (hC hb))]
theorem DC (ts:List Int) (bd:List AL.Stmt) (pts:List Pnt) (A:List Nat) (w:WG ts pts) (hA:nR ts pts A):PC Tryz.prog 100 [aG ts bd pts,iv 0] (fun r => r = .imm pts.length (flat cN A)):=by
 refine aB Tryz.func100 Tryz.ntmps100 ?_
 repeat' (first|(apply aI;(apply aA (k := 130);rfl;exact Ab ts bd pts A w hA;exact Pur.pf;rfl))|refine aD ?_|refine b9 ?_|fail)
 exact ⟨rfl,(by (exact bC _ _))⟩
theorem GU (ts:List Int) (bd:List AL.Stmt) (pts:List Pnt) (A:List Nat) (w:WG ts pts) (hA:nX ts pts A):PC Tryz.prog 101 [aG ts bd pts] (fun r => r = .imm pts.length (flat cN A)):=by
 refine aB Tryz.func101 Tryz.ntmps101 ?_
 repeat' (first|(apply aI;(apply aA (k := 130);rfl;exact y7 ts bd pts A w hA;exact Pur.pf;rfl))|refine aD ?_|refine b9 ?_|fail)
 exact ⟨rfl,(by (exact bC _ _))⟩
theorem AA (ts:List Int) (bd:List AL.Stmt) (pts:List Pnt) (n:Nat) (B:List Nat) (i:Int) (w:WG ts pts) (hn:n = B.length) (hB:B.length = pts.length) (hs:∀ z:Nat,Sm B[z]!) (hi:0 ≤ i ∧ i < pts.length):PC Tryz.prog 107 [aG ts bd pts,.imm n (flat cN B),iv i] (fun r => r = iv (G1 pts B i.toNat:Nat)):=by
 subst hn
 have hin : i.toNat < pts.length := by omega
 have hnl := w.nl _ hin
 have hpl := w.pl
 refine aB Tryz.func107 Tryz.ntmps107 ?_
 repeat' (first|refine aD ?_|fail)
 refine aJ (σ := Nat × Nat) [1,17,18] [] (fun k => [(19,iv (k.1 : Int)),(7,iv (k.2 : Int))]) (fun k => []) (fun k => k.1 ≤ pts[i.toNat]!.next.length ∧ k.2 = ((qL pts i.toNat).take k.1).foldl (fun a k => lD a B[k]!) 0 ∧ Sm k.2) (fun k => pts[i.toNat]!.next.length - k.1) (0,0) ⟨by omega,rfl,inferInstance⟩ ?_
 rintro ⟨k,a⟩ ⟨hk,ha,hsa⟩
 dsimp only at hk ha hsa ⊢
 have hz : k < pts[i.toNat]!.next.length → 0 ≤ pts[i.toNat]!.next[k]! ∧ pts[i.toNat]!.next[k]! < pts.length := fun h => w.nx _ hin _ (bD _ _ h)
 repeat' (first|refine aD ?_|(refine aL ?_ ?_ <;> intro hc hq <;> try (exfalso;omega))|refine b9 ?_|fail)
 ·(refine a7 (k + 1, _) (Le.renA []) ?_ ?_)
  ·dsimp only
   refine ⟨by omega,?_,inferInstance⟩
   rw [c8 _ _ _ _ (by rw [iS]; omega),uG (by omega),← ha]
  ·dsimp only;omega
 ·(refine ⟨?_, rfl⟩; simp only [aM, AV.v.injEq, Value.bool.injEq, Value.int.injEq, true_and])
  rw [ha,List.take_of_length_le (by rw [iS]; omega)]; rfl
theorem EX (ts:List Int) (bd:List AL.Stmt) (pts:List Pnt) (A:List Nat) (w:WG ts pts) (hA:pH ts pts A):PC Tryz.prog 106 [aG ts bd pts] (fun r => r = .imm pts.length (flat cN A)):=by
 have hpl := w.pl
 have hp0 := w.p0
 have htl := w.tl
 refine aB Tryz.func106 Tryz.ntmps106 ?_
 repeat' (first|refine aD ?_|fail)
 refine aJ (σ := List Nat × Bool) [0,3] [] (fun s => [(4,bv s.2)]) (fun s => [(0,some (flat cN s.1))]) (fun s => SN ts pts s.1 ∧ (s.2 = false → ∀ i,i < pts.length → mQ ts pts s.1 i = s.1[i]!)) (fun s => 2 * dQ (s.1.map (fun a => 2 ^ ts.length - a)) + s.2.toNat) (List.replicate pts.length 0,true) ⟨IC,fun h => by cases h⟩ ?_
 rintro ⟨s,b⟩ ⟨hS,hC⟩
 dsimp only at hS hC ⊢
 repeat' (first|refine aD ?_|(refine aL ?_ ?_ <;> intro hc hq <;> try (exfalso;omega))|fail)
 ·refine aJ (σ := Nat × Int × (List Nat × Bool)) [0, 3] [] (fun k => [(5, iv k.2.1), (4, bv k.2.2.2)]) (fun k => [(0, some (flat cN k.2.2.1))]) (fun k => k.1 ≤ pts.length ∧ k.2.1 = (pts.length : Int) - 1 - k.1 ∧ k.2.2 = ((List.range pts.length).reverse.take k.1).foldl (jI ts pts) (s, false) ∧ SN ts pts k.2.2.1) (fun k => pts.length - k.1) (0, (pts.length : Int) - 1, (s, false)) ⟨by omega, by simp, rfl, hS⟩ ?_
  rintro ⟨k,z,u,c⟩ ⟨hk,hz,hf,hS2⟩
  dsimp only at hk hz hf hS2 ⊢
  have hsm : ∀ z : Nat,Sm u[z]! := pK hS2.1 (fun i A h => h.1) htl
  have hul := hS2.1.1
  have hst := fun h : z.toNat < pts.length => (w.set z.toNat h).1
  have hst2 : aN pts[z.toNat]! < 62 := by
   by_cases h : z.toNat < pts.length
   ·have := hst h;omega
   ·rw [getElem!_neg pts z.toNat h]; decide
  have hs1 : Sm (wS ts pts[z.toNat]! [1,2,3]) := dG (by omega)
  have hs2 : Sm (fU pts[z.toNat]!) := n7 (by omega)
  have hs3 : Sm (G1 pts u z.toNat) := by
   unfold G1
   have : ∀ (L : List Nat) (a : Nat), Sm a → Sm (L.foldl (fun a k => a ||| u[k]!) a) := by
    intro L;induction L with
    | nil => exact fun a h => h
    | cons x L ih => exact fun a h => ih _ (inferInstance : Sm (a ||| u[x]!))
   exact this _ _ inferInstance
  have hlaw := fun h : z.toNat < pts.length => rC w u c z.toNat h hS2
  repeat' (first|(apply aI;(first|(apply aA (k := 76);rfl;(apply Fo <;> (assumption));exact Pur.pf;rfl)|(apply aA (k := 133);rfl;(apply l3 <;> (assumption));exact Pur.pf;rfl)|(apply DP (k := 107);(case ha => rfl);(case hl => (repeat' (first|exact Cn|apply yX|exact Gc|exact B6 rfl inferInstance|exact zX inferInstance)));(case h => (apply AA <;> (first|assumption|omega)));(case hfr|hN => rfl);(case hmd => infer_instance))))|refine aD ?_|(refine aL ?_ ?_ <;> intro hc hq <;> try (exfalso;omega))|refine bV ?_|fail)
  ·have hzn : z.toNat < pts.length := by omega
   have hne : mQ ts pts u z.toNat ≠ u[z.toNat]! := fun h => hq (congrArg Int.ofNat h)
   have hl := hlaw hzn
   rw [Ay hne] at hl
   have hrg : (List.range pts.length).reverse[k]! = z.toNat := by rw [vW (by omega)]; omega
   (refine a7 (k + 1,_,(_,true)) (Le.renA [(0,0)]) ?_ ?_)
   ·dsimp only
    refine ⟨by omega,by omega,?_,hl.1⟩
    rw [c8 _ _ _ _ (by simp;omega),← hf,hrg,Ay hne]; rfl
   ·dsimp only;omega
  ·have hzn : z.toNat < pts.length := by omega
   have hne : mQ ts pts u z.toNat = u[z.toNat]! := Int.ofNat.inj hq
   have hrg : (List.range pts.length).reverse[k]! = z.toNat := by rw [vW (by omega)]; omega
   (refine a7 (k + 1,_,(u,c)) (Le.renA [(0,0)]) ?_ ?_)
   ·dsimp only
    refine ⟨by omega,by omega,?_,hS2⟩
    rw [c8 _ _ _ _ (by simp;omega),← hf,hrg,GK hne]
   ·dsimp only;omega
  ·have law := B3 w s false hS
   have hfull : (u, c) = w5 ts pts (s, false) := by
    rw [hf,List.take_of_length_le (by simp;omega)]; rfl
   rw [← hfull] at law
   (refine a7 (u,c) (Le.renA [(0,0)]) ?_ ?_)
   ·dsimp only
    refine ⟨hS2,fun h => ?_⟩
    rcases law.2 with ⟨e1,e2⟩ | ⟨e1,_⟩
    ·cases e1;exact e2
    ·dsimp only at e1;rw [h] at e1;cases e1
   ·dsimp only
    have hb : b = true := by assumption
    subst hb
    rcases law.2 with ⟨e1,e2⟩ | ⟨e1,e2⟩
    ·cases e1;simp
    ·dsimp only at e1 e2;subst e1;omega
 ·have hb : b = false := by assumption
  refine aT (Le.frzD (d := 2) (i := 0) rfl rfl) ?_
  refine aH rfl ⟨?_,(by (exact bC _ _))⟩
  simp only [aM]
  rw [BE hA (DK w hS (hC hb))]
theorem xN (ts:List Int) (bd:List AL.Stmt) (pts:List Pnt) (B A:List Nat) (w:WG ts pts) (hB:pH ts pts B) (hA:nY ts pts A):PC Tryz.prog 63 [aG ts bd pts] (fun r => r = .imm pts.length (flat cN A)):=by
 have hpl := w.pl
 have htl := w.tl
 have hBl := hB.1
 have hsm : ∀ z : Nat, Sm B[z]! := by
  intro z
  by_cases hz : z < pts.length
  ·refine ⟨Nat.lt_of_lt_of_le (Nat.lt_pow_two_of_testBit _ (n := 6) fun v hv => ?_) (by decide)⟩
   cases hq : B[z]!.testBit v with
   | false => rfl
   | true => have := o8 w ((hB.2 z hz v).1 hq);dsimp only at this;omega
  ·rw [getElem!_neg B z (by rw [hBl]; exact hz)]; exact ⟨by decide⟩
 refine aB Tryz.func63 Tryz.ntmps63 ?_
 repeat' (first|(apply aI;(apply aA (k := 106);rfl;(apply EX <;> (assumption));exact Pur.pf;rfl))|refine aD ?_|fail)
 refine AW.le ?_ (Le.nilOwn (d := 4) 1 rfl (by decide))
 refine aJ (σ := Nat × List Nat) [0,3,12] [] (fun k => [(13,iv (k.1 : Int)),(4,.own 0 0 k.1 1)]) (fun k => [(0,some (flat cN k.2))]) (fun k => k.1 ≤ pts.length ∧ k.2 = (List.range k.1).map (G1 pts B)) (fun k => pts.length - k.1) (0,[]) ⟨by omega,rfl⟩ ?_
 rintro ⟨k,u⟩ ⟨hk,hu⟩
 dsimp only at hk hu ⊢
 have hul : u.length = k := by rw [hu]; simp
 repeat' (first|(apply aI;first|(apply aO (t := _);rfl;rfl;rfl;exact (rfl:_=some [_]);rfl;rfl)|(apply aA (k := 107);rfl;(apply AA <;> (first|assumption|omega));exact Pur.pf;rfl))|refine aD ?_|(refine aL ?_ ?_ <;> intro hc hq <;> try (exfalso;omega))|fail)
 ·(refine a7 (k + 1, _) (Le.renA [(0, 2)]) ?_ ?_)
  ·dsimp only
   refine ⟨by omega,?_⟩
   rw [hu,List.range_succ,List.map_append]; rfl
  ·dsimp only;omega
 ·refine aT (Le.frzD (d := 2) (i := 0) rfl rfl) ?_
  refine aH rfl ⟨?_,(by (exact bC _ _))⟩
  simp only [aM]
  have hkn : k = pts.length := by omega
  subst hkn
  rw [rF hA (vR w hB),hu]
theorem Ag (A:Nat) (hA:Sm A):PC Tryz.prog 75 [iv (A:Int)] (fun r => r = sl cI (aX A)):=by
 refine aB Tryz.func75 Tryz.ntmps75 ?_
 repeat' (first|refine aD ?_|fail)
 refine AW.le ?_ (Le.nilOwn (d := 3) 1 rfl (by decide))
 refine aJ (σ := Nat × List Int × Nat) [0] [] (fun k => [(4,iv (k.1 : Int)),(3,.own 0 0 k.2.2 1)]) (fun k => [(0,some (flat cI k.2.1))]) (fun k => k.1 ≤ 62 ∧ k.2.1 = ((List.range k.1).filter (A.testBit ·)).map (fun v : Nat => (v : Int)) ∧ k.2.2 = k.2.1.length ∧ k.2.2 ≤ k.1) (fun k => 62 - k.1) (0,[],0) ⟨by omega,rfl,rfl,Nat.le_refl _⟩ ?_
 rintro ⟨k,u,m⟩ ⟨hk,hu,hm,hmk⟩
 dsimp only at hk hu hm hmk ⊢
 repeat' (first|(apply aI;(apply aO (t := _);rfl;rfl;rfl;exact (rfl:_=some [_]);rfl;rfl))|refine aD ?_|(refine aL ?_ ?_ <;> intro hc hq <;> try (exfalso;omega))|fail)
 ·have hlt := Bl hA (show 0 < ((A >>> k : Nat) : Int) by assumption)
  (refine a7 (k + 1,_,_) (Le.renA [(0,2)]) ?_ ?_)
  ·dsimp only
   exact ⟨by omega,sB hq hu,by simp;omega,by omega⟩
  ·dsimp only;omega
 ·have hlt := Bl hA (show 0 < ((A >>> k : Nat) : Int) by assumption)
  (refine a7 (k + 1,u,m) (Le.renA [(0,0)]) ?_ ?_)
  ·dsimp only
   exact ⟨by omega,rI hq hu,hm,by omega⟩
  ·dsimp only;omega
 ·(refine aT (Le.frzD (d := 2) (i := 0) rfl rfl) ?_; refine aH rfl ?_)
  refine ⟨?_,(by (exact bC _ _))⟩
  simp only [aM,sl]
  rw [mY (k := k) (fun v hv => D8 hq v hv) (by omega) hA,← hu,← hm]
theorem oZ (A:Nat) (hA:Sm A):PC Tryz.prog 103 [.v (.int .u64 (A:Int))] (fun r => r = sl cI (aX A)):=by
 refine aB Tryz.func103 Tryz.ntmps103 ?_
 repeat' (first|refine aD ?_|fail)
 refine AW.le ?_ (Le.nilOwn (d := 3) 1 rfl (by decide))
 refine aJ (σ := Nat × List Int × Nat) [0] [] (fun k => [(5,iv (k.1 : Int)),(3,.own 0 0 k.2.2 1)]) (fun k => [(0,some (flat cI k.2.1))]) (fun k => k.1 ≤ 64 ∧ k.2.1 = ((List.range k.1).filter (A.testBit ·)).map (fun v : Nat => (v : Int)) ∧ k.2.2 = k.2.1.length ∧ k.2.2 ≤ k.1) (fun k => 64 - k.1) (0,[],0) ⟨by omega,rfl,rfl,Nat.le_refl _⟩ ?_
 rintro ⟨k,u,m⟩ ⟨hk,hu,hm,hmk⟩
 dsimp only at hk hu hm hmk ⊢
 repeat' (first|(apply aI;(apply aO (t := _);rfl;rfl;rfl;exact (rfl:_=some [_]);rfl;rfl))|refine aD ?_|(refine aL ?_ ?_ <;> intro hc hq <;> try (exfalso;omega))|fail)
 ·(refine a7 (k + 1, _, _) (Le.renA [(0, 2)]) ?_ ?_)
  ·dsimp only
   exact ⟨by omega,sB hq hu,by simp;omega,by omega⟩
  ·dsimp only;omega
 ·(refine a7 (k + 1, u, m) (Le.renA [(0, 0)]) ?_ ?_)
  ·dsimp only
   exact ⟨by omega,rI hq hu,hm,by omega⟩
  ·dsimp only;omega
 ·(refine aT (Le.frzD (d := 2) (i := 0) rfl rfl) ?_; refine aH rfl ?_)
  refine ⟨?_,(by (exact bC _ _))⟩
  simp only [aM,sl]
  rw [mY (k := k) (fun v hv => Nat.testBit_lt_two_pow (Nat.lt_of_lt_of_le hA.pf (Nat.pow_le_pow_right (by decide) (by omega)))) (by omega) hA,← hu,← hm]
theorem vO (ts:List Int) (bd:List AL.Stmt) (pts:List Pnt) (V:Nat) (w:WG ts pts) (hV:Sm V):PC Tryz.prog 132 [aG ts bd pts,iv (V:Int)] (fun r => r = .v (.int .u64 (n4 pts V:Nat))):=by
 have hpl := w.pl
 have htl := w.tl
 refine aB Tryz.func132 Tryz.ntmps132 ?_
 repeat' (first|refine aD ?_|fail)
 refine aJ (σ := Nat × Nat) [1,11,12] [] (fun k => [(13,iv (k.1 : Int)),(5,.v (.int .u64 (k.2 : Int)))]) (fun k => []) (fun k => k.1 ≤ pts.length ∧ k.2 = dK (fun l => bI pts[l]! && V.testBit (pts[l]!.y.toNat)) k.1) (fun k => pts.length - k.1) (0,0) ⟨by omega,rfl⟩ ?_
 rintro ⟨k,A⟩ ⟨hk,hA⟩
 dsimp only at hk hA ⊢
 have hsm : Sm A := hA ▸ dG (by omega)
 cases hln : bI pts[k]!
 ·repeat' (first | (apply aI; (apply aA (k := 128);rfl;(apply kB);exact Pur.pf;rfl)) | refine aD ?_ | (refine aL ?_ ?_ <;> intro hc hq <;> try (exfalso; omega)) | refine b9 ?_|fail)
  ·(refine a7 (k + 1, A) (Le.renA []) ?_ ?_)
   ·dsimp only
    exact ⟨by omega,by rw [hA]; exact jN _ _ (by rw [hln]; rfl)⟩
   ·dsimp only;omega
  ·(refine ⟨?_, rfl⟩; simp only [aM, AV.v.injEq, Value.bool.injEq, Value.int.injEq, true_and])
   rw [hA,show k = pts.length by omega]; rfl
 ·have hy := fun (h : k < pts.length) => mW w h hln
  repeat' (first|(apply aI;first|(apply gS;rfl;rfl;infer_instance;omega;rfl;(case' kk => intro hsm))|(apply aA (k := 128);rfl;(apply kB);exact Pur.pf;rfl))|refine aD ?_|(refine aL ?_ ?_ <;> intro hc hq <;> try (exfalso;omega))|refine b9 ?_|fail)
  ·(refine a7 (k + 1, _) (Le.renA []) ?_ ?_)
   ·dsimp only
    exact ⟨by omega,by rw [hA]; exact nS _ _ (by rw [hln,Bool.true_and]; exact (jP _ _).1 hq)⟩
   ·dsimp only;omega
  ·(refine a7 (k + 1, A) (Le.renA []) ?_ ?_)
   ·dsimp only
    exact ⟨by omega,by rw [hA]; exact jN _ _ (by rw [hln,Bool.true_and]; cases hb : V.testBit (pts[k]!.y.toNat) with|false => rfl|true => exact absurd ((jP _ _).2 hb) hq)⟩
   ·dsimp only;omega
  ·(refine ⟨?_, rfl⟩; simp only [aM, AV.v.injEq, Value.bool.injEq, Value.int.injEq, true_and])
   rw [hA,show k = pts.length by omega]; rfl
theorem Ei (ts:List Int) (bd:List AL.Stmt) (pts:List Pnt) (A:List Nat) (w:WG ts pts) (hA:nN ts pts A):PC Tryz.prog 102 [aG ts bd pts] (fun r => r = .imm pts.length (flat cW A)):=by
 have hpl := w.pl
 have hp0 := w.p0
 have htl := w.tl
 have fl := JH w
 refine aB Tryz.func102 Tryz.ntmps102 ?_
 repeat' (first|refine aD ?_|fail)
 refine aJ (σ := List Nat × Bool) [0,3] [] (fun s => [(4,bv s.2)]) (fun s => [(0,some (flat cW s.1))]) (fun s => SG pts (JI ts pts) s.1 ∧ (s.2 = false → jF lD (tB ts pts) pts s.1)) (fun s => 2 * dQ (s.1.map (fun a => 2 ^ pts.length - a)) + s.2.toNat) (List.replicate pts.length 0,true) ⟨yV fun i hi => ⟨Nat.pow_pos (by decide),fun v h => by simp at h⟩,fun h => by cases h⟩ ?_
 rintro ⟨s,b⟩ ⟨hS,hC⟩
 dsimp only at hS hC ⊢
 repeat' (first|refine aD ?_|(refine aL ?_ ?_ <;> intro hc hq <;> try (exfalso;omega))|fail)
 ·refine aJ (σ := Nat × (List Nat × Bool)) [0, 3, 20, 21] [] (fun k => [(22, iv (k.1 : Int)), (4, bv k.2.2)]) (fun k => [(0, some (flat cW k.2.1))]) (fun k => k.1 ≤ pts.length ∧ k.2 = (List.range k.1).foldl (s7 lD (tB ts pts) pts) (s, false) ∧ SG pts (JI ts pts) k.2.1) (fun k => pts.length - k.1) (0, (s, false)) ⟨by omega, rfl, hS⟩ ?_
  rintro ⟨k,u,c⟩ ⟨hk,hf,hS2⟩
  dsimp only at hk hf hS2 ⊢
  have hul := hS2.1
  by_cases hkn : k < pts.length
  ·have hst := (w.set k hkn).1
   have hsm : ∀ z : Nat, Sm u[z]! := by
    intro z
    by_cases hz : z < pts.length
    ·exact ⟨Nat.lt_of_lt_of_le (hS2.2 z hz).1 (Nat.pow_le_pow_right (by decide) (by omega))⟩
    ·rw [getElem!_neg u z (by rw [hul]; exact hz)]; exact ⟨by decide⟩
   have hs1 : Sm (wS ts pts[k]! [2]) := dG (by omega)
   have hs2 : Sm (fU pts[k]!) := n7 (by omega)
   have hs3 : ∀ V,Sm (n4 pts V) := fun V => EC w V
   have hnl := w.nl k hkn
   have e1 : bI pts[k]! = true → kY u[k]! (n4 pts (wS ts pts[k]! [2] ||| fU pts[k]!)) ||| 2 ^ (k : Int).toNat = tB ts pts k u[k]! := fun h => by unfold tB ID;rw [if_pos h]; rfl
   have e0 : bI pts[k]! = false → kY u[k]! (n4 pts (wS ts pts[k]! [2] ||| fU pts[k]!)) = tB ts pts k u[k]! := fun h => by unfold tB ID;rw [if_neg (by rw [h]; simp),Nat.or_zero]
   have hps : Sm (tB ts pts k u[k]!) := ⟨Nat.lt_of_lt_of_le (yW w hkn (hS2.2 k hkn).1) (Nat.pow_le_pow_right (by decide) (by omega))⟩
   repeat' (first|(apply aI;first|(apply gS;rfl;rfl;infer_instance;omega;rfl;(case' kk => intro hsm))|(first|(apply aA (k := 126);rfl;(apply oI <;> (assumption));exact Pur.pf;rfl)|(apply aA (k := 133);rfl;(apply l3 <;> (omega));exact Pur.pf;rfl)|(apply aA (k := 128);rfl;(apply kB);exact Pur.pf;rfl)|(apply aA (k := 132);rfl;(apply vO <;> (first|assumption|infer_instance));exact Pur.pf;rfl)))|refine aD ?_|(refine aL ?_ ?_ <;> intro hc hq <;> try (exfalso;omega))|refine bV ?_|fail)
   all_goals first|rw [e1 (by assumption)]|rw [e0 (by assumption)]
   all_goals
    refine aJ (σ := Nat × (List Nat × Bool)) [0,3,7,20,21,22,47,48] [] (fun j => [(49,iv (j.1 : Int)),(4,bv j.2.2)]) (fun j => [(0,some (flat cW j.2.1))]) (fun j => j.1 ≤ pts[k]!.next.length ∧ j.2 = ((qL pts k).take j.1).foldl (jC lD (tB ts pts k u[k]!)) (u,c) ∧ SG pts (JI ts pts) j.2.1) (fun j => pts[k]!.next.length - j.1) (0,(u,c)) ⟨by omega,rfl,hS2⟩ ?_
    rintro ⟨j,u2,c2⟩ ⟨hj,hf2,hS3⟩
    dsimp only at hj hf2 hS3 ⊢
    have hul2 := hS3.1
    have hsm2 : ∀ z : Nat, Sm u2[z]! := by
     intro z
     by_cases hz : z < pts.length
     ·exact ⟨Nat.lt_of_lt_of_le (hS3.2 z hz).1 (Nat.pow_le_pow_right (by decide) (by omega))⟩
     ·rw [getElem!_neg u2 z (by rw [hul2]; exact hz)]; exact ⟨by decide⟩
    have hz : j < pts[k]!.next.length → 0 ≤ pts[k]!.next[j]! ∧ pts[k]!.next[j]! < pts.length := fun h => w.nx k hkn _ (bD _ _ h)
    repeat' (first|refine aD ?_|(refine aL ?_ ?_ <;> intro hc hq <;> try (exfalso;omega))|refine bV ?_|fail)
    ·have hzz := hz (by omega)
     have hed : cQ pts k (pts[k]!.next[j]!).toNat := ⟨hkn,by rw [Int.toNat_of_nonneg hzz.1]; exact bD _ _ (by omega)⟩
     have hne : lD u2[(pts[k]!.next[j]!).toNat]! (tB ts pts k u[k]!) ≠ u2[(pts[k]!.next[j]!).toNat]! := fun h => hq (congrArg Int.ofNat h)
     (refine a7 (j + 1,(_,true)) (Le.renA [(0,0)]) ?_ ?_)
     ·dsimp only
      refine ⟨by omega,?_,uB fl w (hS2.2 k hkn) hed hS3⟩
      rw [fY (by omega),← hf2,tQ hne]
     ·dsimp only;omega
    ·have hzz := hz (by omega)
     have hne : lD u2[(pts[k]!.next[j]!).toNat]! (tB ts pts k u[k]!) = u2[(pts[k]!.next[j]!).toNat]! := Int.ofNat.inj hq
     (refine a7 (j + 1,(u2,c2)) (Le.renA [(0,0)]) ?_ ?_)
     ·dsimp only
      refine ⟨by omega,?_,hS3⟩
      rw [fY (by omega),← hf2,uR hne]
     ·dsimp only;omega
    ·(refine a7 (k + 1, (u2, c2)) (Le.renA [(0, 0)]) ?_ ?_)
     ·dsimp only
      refine ⟨by omega,?_,hS3⟩
      rw [cV,← hf,hf2,List.take_of_length_le (by rw [iS]; omega)]; rfl
     ·dsimp only;omega
  ·repeat' (first | refine aD ?_ | (refine aL ?_ ?_ <;> intro hc hq <;> try (exfalso; omega))|fail)
   have law := pN w fl s false hS
   have hfull : (u, c) = sX lD (tB ts pts) pts (s, false) := by
    rw [hf,show k = pts.length by omega]; rfl
   rw [← hfull] at law
   (refine a7 (u,c) (Le.renA [(0,0)]) ?_ ?_)
   ·dsimp only
    refine ⟨hS2,fun h => ?_⟩
    rcases law.2 with ⟨e1,e2⟩ | ⟨e1,_⟩
    ·cases e1;exact e2
    ·dsimp only at e1;rw [h] at e1;cases e1
   ·dsimp only
    have hb : b = true := by assumption
    subst hb
    rcases law.2 with ⟨e1,e2⟩ | ⟨e1,e2⟩
    ·cases e1;simp
    ·dsimp only at e1 e2;subst e1;omega
 ·have hb : b = false := by assumption
  refine aT (Le.frzD (d := 2) (i := 0) rfl rfl) ?_
  refine aH rfl ⟨?_,(by (exact bC _ _))⟩
  simp only [aM]
  rw [B1 hA (DI w hS (hC hb))]
theorem yB (ts:List Int) (bd:List AL.Stmt) (pts:List Pnt) (i:Int) (f:List Nat) (w:WG ts pts) (hi:0 ≤ i ∧ i < pts.length) (hf:f.length = 6) (hs:∀ z:Nat,Sm f[z]!):PC Tryz.prog 99 [aG ts bd pts,iv i,.agg (flat cW f)] (fun r => r = .agg (flat cW (uO ts pts i.toNat f))):=by
 have hpl := w.pl
 have htl := w.tl
 have hin : i.toNat < pts.length := by omega
 have hst := (w.set i.toNat hin)
 have hy := w.y i.toNat hin
 have hbl := iJ (wS ts pts[i.toNat]! [2])
 have hT : Sm (wS ts pts[i.toNat]! [2]) := dG (by omega)
 refine aB Tryz.func99 Tryz.ntmps99 ?_
 repeat' (first|(apply aI;(first|(apply aA (k := 75);rfl;(apply Ag <;> (assumption));(rfl);rfl)|(apply aA (k := 126);rfl;(apply oI <;> (assumption));exact Pur.pf;rfl)))|refine aD ?_|fail)
 refine aJ (σ := Nat × List Nat) [0,1,5,6,7,8,23,24] [0,1,2] (fun k => [(25,iv (k.1 : Int))]) (fun k => [(3,some (flat cW k.2))]) (fun k => k.1 ≤ (aX (wS ts pts[i.toNat]! [2])).length ∧ k.2 = lK ((aX (wS ts pts[i.toNat]! [2])).take k.1) f ∧ k.2.length = 6) (fun k => (aX (wS ts pts[i.toNat]! [2])).length - k.1) (0,f) ⟨by omega,rfl,hf⟩ ?_
 rintro ⟨k,u⟩ ⟨hk,hu,hul⟩
 dsimp only at hk hu hul ⊢
 have hbb : k < (aX (wS ts pts[i.toNat]! [2])).length → 0 ≤ (aX (wS ts pts[i.toNat]! [2]))[k]! ∧ (aX (wS ts pts[i.toNat]! [2]))[k]! < ts.length := fun h => jT (sI (fun v => decide (aU ts pts[i.toNat]! v ∈ [2])) ts.length) h
 have husm : ∀ z : Nat,Sm u[z]! := by intro z;rw [hu]; exact II hs z
 have hset : ∀ (k a : Nat) [Sm a] (z : Nat),Sm (u.set k a)[z]! := fun k a h z => zZ husm h z
 have hset2 : ∀ (k a k2 a2 : Nat) [Sm a] [Sm a2] (z : Nat),Sm ((u.set k a).set k2 a2)[z]! := fun k a k2 a2 h h2 z => zZ (zZ husm h) h2 z
 by_cases hkn : k < (aX (wS ts pts[i.toNat]! [2])).length
 ·have hbk := hbb hkn
  repeat' (first|refine aD ?_|(refine aL ?_ ?_ <;> intro hc hq <;> try (exfalso;omega))|fail)
  (refine a7 (k + 1,u.set ((aX (wS ts pts[i.toNat]! [2]))[k]!).toNat 0) (Le.renA [(0,0),(1,1),(2,2),(3,3)]) ?_ ?_)
  ·dsimp only
   exact ⟨by omega,by rw [CM hkn,← hu],by simpa using hul⟩
  ·dsimp only;omega
 ·have hu' : u = lK (aX (wS ts pts[i.toNat]! [2])) f := by rw [hu, List.take_of_length_le (by omega)]
  cases hln : bI pts[i.toNat]!
  ·repeat' (first | (apply aI; (first | (apply aA (k := 127);rfl;(apply tX);exact Pur.pf;rfl) | (apply aA (k := 128);rfl;(apply kB);exact Pur.pf;rfl))) | refine aD ?_ | (refine aL ?_ ?_ <;> intro hc hq <;> try (exfalso; omega)) | refine bV ?_|fail)
   all_goals (refine aH (lF (z := 6) rfl rfl (by first|exact hul|(simp only [List.length_set]; exact hul)) (by decide)) ⟨?_,(by (exact bC _ _))⟩)
   all_goals simp only [aM,uO,← hu',hln,Bool.false_eq_true,false_and,false_or,if_false]
   all_goals congr 2
   all_goals grind
  ·have hop := lN hln
   repeat' (first|(apply aI;first|(apply gS;rfl;rfl;infer_instance;omega;rfl;(case' kk => intro hsm))|(first|(apply aA (k := 127);rfl;(apply tX);exact Pur.pf;rfl)|(apply aA (k := 128);rfl;(apply kB);exact Pur.pf;rfl)|(apply aA (k := 129);rfl;(apply wI);(rfl);rfl)))|refine aD ?_|(refine aL ?_ ?_ <;> intro hc hq <;> try (exfalso;omega))|(refine bT ?_ ?_ <;> intro hg hq <;> try (exfalso;omega))|refine bV ?_|fail)
   all_goals (refine aH (lF (z := 6) rfl rfl (by first|exact hul|(simp only [List.length_set]; exact hul)) (by decide)) ⟨?_,(by (exact bC _ _))⟩)
   all_goals simp only [aM,uO,← hu',hln,true_and,if_true]
   all_goals congr 2
   all_goals grind
theorem CA (ts:List Int) (bd:List AL.Stmt) (pts:List Pnt) (A:List Nat) (w:WG ts pts) (hA:nK ts pts A):PC Tryz.prog 61 [aG ts bd pts] (fun r => r = .imm pts.length (flat cW A)):=by
 have hpl := w.pl
 have hp0 := w.p0
 have htl := w.tl
 refine aB Tryz.func61 Tryz.ntmps61 ?_
 repeat' (first|refine aD ?_|fail)
 refine aJ (σ := List Nat × Bool) [0,3] [] (fun s => [(4,bv s.2)]) (fun s => [(0,some (flat cW s.1))]) (fun s => SF ts pts s.1 ∧ (s.2 = false → tR ts pts s.1)) (fun s => 2 * dQ (s.1.map (fun x => 2 ^ pts.length - x)) + s.2.toNat) (List.replicate (pts.length * 6) 0,true) ⟨Iy,fun h => by cases h⟩ ?_
 rintro ⟨s,b⟩ ⟨hS,hC⟩
 dsimp only at hS hC ⊢
 repeat' (first|refine aD ?_|(refine aL ?_ ?_ <;> intro hc hq <;> try (exfalso;omega))|fail)
 ·refine aJ (σ := Nat × (List Nat × Bool)) [0, 3, 22, 23] [] (fun k => [(24, iv (k.1 : Int)), (4, bv k.2.2)]) (fun k => [(0, some (flat cW k.2.1))]) (fun k => k.1 ≤ pts.length ∧ k.2 = (List.range k.1).foldl (yA ts pts) (s, false) ∧ SF ts pts k.2.1) (fun k => pts.length - k.1) (0, (s, false)) ⟨by omega, rfl, hS⟩ ?_
  rintro ⟨i,u,c⟩ ⟨hk,hf,hS2⟩
  dsimp only at hk hf hS2 ⊢
  have hul := hS2.1
  have hsm : ∀ z : Nat,Sm u[z]! := HF w hS2
  by_cases hin : i < pts.length
  ·have hnl := w.nl i hin
   have hrl : ((u.drop (i * 6)).take 6).length = 6 := eH hul hin
   have hrs : ∀ z : Nat, Sm ((u.drop (i * 6)).take 6)[z]! := by
    intro z
    by_cases hz : z < 6
    ·have := fD hul hin hz;unfold dC at this;rw [this]; exact hsm _
    ·rw [getElem!_neg _ z (by rw [hrl]; exact hz)]; exact ⟨by decide⟩
   have hcl : (uO ts pts (i : Int).toNat ((u.drop (i * 6)).take 6)).length = 6 := (Hv ts pts i ((u.drop (i * 6)).take 6)).trans hrl
   repeat' (first|(apply aI;(apply aA (k := 99);rfl;(apply yB <;> (first|assumption|omega));exact Pur.pf;rfl))|refine aD ?_|(refine aL ?_ ?_ <;> intro hc hq <;> try (exfalso;omega))|fail)
   generalize hcf : uO ts pts (i : Int).toNat ((u.drop (i * 6)).take 6) = a at hcl
   have hcf' : uO ts pts i (dC u i) = a := hcf
   have hasnd : ∀ k,cQ pts i k → ∀ v,v < 6 → JB ts pts k v a[v]! := fun k e v hv => by rw [← hcf']; exact Bn w hS2 e hv
   refine aJ (σ := Nat × (List Nat × Bool)) [0,3,7,22,23,24,37,38] [2] (fun j => [(39,iv (j.1 : Int)),(4,bv j.2.2)]) (fun j => [(0,some (flat cW j.2.1))]) (fun j => j.1 ≤ pts[i]!.next.length ∧ j.2 = ((qL pts i).take j.1).foldl (qP a) (u,c) ∧ SF ts pts j.2.1) (fun j => pts[i]!.next.length - j.1) (0,(u,c)) ⟨by omega,rfl,hS2⟩ ?_
   rintro ⟨j,u2,c2⟩ ⟨hj,hf2,hS3⟩
   dsimp only at hj hf2 hS3 ⊢
   have hul2 := hS3.1
   by_cases hjn : j < pts[i]!.next.length
   ·have hzz : 0 ≤ pts[i]!.next[j]! ∧ pts[i]!.next[j]! < pts.length := w.nx i hin _ (bD _ _ hjn)
    have hed : cQ pts i (pts[i]!.next[j]!).toNat := ⟨hin,by rw [Int.toNat_of_nonneg hzz.1]; exact bD _ _ hjn⟩
    have hap := hasnd _ hed
    have hasm : ∀ z : Nat, Sm a[z]! := by
     intro z
     by_cases hz : z < 6
     ·exact ⟨Nat.lt_of_lt_of_le (hap z hz).1 (Nat.pow_le_pow_right (by decide) (by omega))⟩
     ·rw [getElem!_neg a z (by rw [hcl]; exact hz)]; exact ⟨by decide⟩
    repeat' (first|refine aD ?_|(refine aL ?_ ?_ <;> intro hc hq <;> try (exfalso;omega))|fail)
    refine aJ (σ := Nat × (List Nat × Bool)) [0,3,7,9,22,23,24,37,38,39,43] [2] (fun v => [(44,iv (v.1 : Int)),(4,bv v.2.2)]) (fun v => [(0,some (flat cW v.2.1))]) (fun v => v.1 ≤ 6 ∧ v.2 = (List.range v.1).foldl (nD a (pts[i]!.next[j]!).toNat) (u2,c2) ∧ SF ts pts v.2.1) (fun v => 6 - v.1) (0,(u2,c2)) ⟨by omega,rfl,hS3⟩ ?_
    rintro ⟨v,u3,c3⟩ ⟨hv,hf3,hS4⟩
    dsimp only at hv hf3 hS4 ⊢
    have hul3 := hS4.1
    have hsm3 : ∀ z : Nat,Sm u3[z]! := HF w hS4
    by_cases hvn : v < 6
    ·have hlaw := u7 (cG w hed) hap u3 c3 v hvn hS4
     repeat' (first|refine aD ?_|(refine aL ?_ ?_ <;> intro hc hq <;> try (exfalso;omega))|refine bV ?_|fail)
     ·have hne : lD u3[(pts[i]!.next[j]!).toNat * 6 + v]! a[v]! ≠ u3[(pts[i]!.next[j]!).toNat * 6 + v]! := fun h => hq (congrArg Int.ofNat h)
      have e1 : nD a (pts[i]!.next[j]!).toNat (u3,c3) v = (u3.set ((pts[i]!.next[j]!).toNat * 6 + v) (lD u3[(pts[i]!.next[j]!).toNat * 6 + v]! a[v]!),true) := tQ hne
      rw [e1] at hlaw
      (refine a7 (v + 1,(_,true)) (Le.renA [(0,0),(2,2)]) ?_ ?_)
      ·dsimp only
       refine ⟨by omega,?_,hlaw.1⟩
       rw [sG,← hf3,e1]; rfl
      ·dsimp only;omega
     ·have hne : lD u3[(pts[i]!.next[j]!).toNat * 6 + v]! a[v]! = u3[(pts[i]!.next[j]!).toNat * 6 + v]! := Int.ofNat.inj hq
      have e1 : nD a (pts[i]!.next[j]!).toNat (u3,c3) v = (u3,c3) := uR hne
      (refine a7 (v + 1,(u3,c3)) (Le.renA [(0,0),(2,2)]) ?_ ?_)
      ·dsimp only
       refine ⟨by omega,?_,hS4⟩
       rw [sG,← hf3,e1]
      ·dsimp only;omega
    ·have hv6 : v = 6 := by omega
     subst hv6
     repeat' (first|refine aD ?_|fail)
     (refine a7 (j + 1,(u3,c3)) (Le.renA [(0,0),(2,2)]) ?_ ?_)
     ·dsimp only
      refine ⟨by omega,?_,hS4⟩
      rw [B4 hjn,← hf2,hf3]; rfl
     ·dsimp only;omega
   ·repeat' (first | refine aD ?_ | (refine aL ?_ ?_ <;> intro hc hq <;> try (exfalso; omega))|fail)
    (refine a7 (i + 1,(u2,c2)) (Le.renA [(0,0)]) ?_ ?_)
    ·dsimp only
     refine ⟨by omega,?_,hS3⟩
     rw [cV,← hf,hf2,List.take_of_length_le (by rw [iS]; omega),← hcf']; rfl
    ·dsimp only;omega
  ·repeat' (first | refine aD ?_ | (refine aL ?_ ?_ <;> intro hc hq <;> try (exfalso; omega))|fail)
   have law := EU w s false hS
   have hfull : (u, c) = EI ts pts (s, false) := by
    rw [hf,show i = pts.length by omega]; rfl
   rw [← hfull] at law
   (refine a7 (u,c) (Le.renA [(0,0)]) ?_ ?_)
   ·dsimp only
    refine ⟨hS2,fun h => ?_⟩
    rcases law.2 with ⟨e1,e2⟩ | ⟨e1,_⟩
    ·cases e1;exact e2
    ·dsimp only at e1;rw [h] at e1;cases e1
   ·dsimp only
    have hb : b = true := by assumption
    subst hb
    rcases law.2 with ⟨e1,e2⟩ | ⟨e1,e2⟩
    ·cases e1;simp
    ·dsimp only at e1 e2;subst e1;omega
 ·have hb : b = false := by assumption
  refine aT (Le.frzD (d := 2) (i := 0) rfl rfl) ?_
  refine aH rfl ⟨?_,(by (exact bC _ _))⟩
  simp only [aM]
  rw [CN hA (EB w hS (hC hb))]
theorem It (ts:List Int) (bd:List AL.Stmt) (pts:List Pnt) (i:Int) (lv:Nat) (f:List Nat) (w:WG ts pts) (hi:0 ≤ i ∧ i < pts.length) (hlv:lv < 2 ^ ts.length) (hf:f.length = 6) (hs:∀ z:Nat,Sm f[z]!):PC Tryz.prog 105 [aG ts bd pts,iv i,iv (lv:Int),.agg (flat cW f)] (fun r => r = .v (.int .u64 (uV ts pts[i.toNat]! lv f:Nat))):=by
 have hpl := w.pl
 have htl := w.tl
 have hin : i.toNat < pts.length := by omega
 have hst := (w.set i.toNat hin)
 have hsl : Sm lv := ⟨Nat.lt_of_lt_of_le hlv (Nat.pow_le_pow_right (by decide) (by omega))⟩
 have hT : Sm (wS ts pts[i.toNat]! [2]) := dG (by omega)
 have hB : Sm (fU pts[i.toNat]!) := n7 (by omega)
 have hbl := iJ (kY lv (wS ts pts[i.toNat]! [2] ||| fU pts[i.toNat]!))
 have hlt : kY lv (wS ts pts[i.toNat]! [2] ||| fU pts[i.toNat]!) < 2 ^ ts.length := Nat.xor_lt_two_pow hlv (Nat.lt_of_le_of_lt Nat.and_le_left hlv)
 refine aB Tryz.func105 Tryz.ntmps105 ?_
 repeat' (first|(apply aI;(first|(apply aA (k := 75);rfl;(apply Ag <;> (infer_instance));(rfl);rfl)|(apply aA (k := 126);rfl;(apply oI <;> (assumption));exact Pur.pf;rfl)|(apply aA (k := 133);rfl;(apply l3 <;> (omega));exact Pur.pf;rfl)))|refine aD ?_|refine bV ?_|fail)
 refine aJ (σ := Nat × Nat) [7,28,29] [0] (fun k => [(30,iv (k.1 : Int)),(10,.v (.int .u64 (k.2 : Int)))]) (fun k => []) (fun k => k.1 ≤ (aX (kY lv (wS ts pts[i.toNat]! [2] ||| fU pts[i.toNat]!))).length ∧ k.2 = Jp f ((aX (kY lv (wS ts pts[i.toNat]! [2] ||| fU pts[i.toNat]!))).take k.1) 0 ∧ Sm k.2) (fun k => (aX (kY lv (wS ts pts[i.toNat]! [2] ||| fU pts[i.toNat]!))).length - k.1) (0,0) ⟨by omega,rfl,inferInstance⟩ ?_
 rintro ⟨k,a⟩ ⟨hk,ha,hsa⟩
 dsimp only at hk ha hsa ⊢
 have hbb : k < (aX (kY lv (wS ts pts[i.toNat]! [2] ||| fU pts[i.toNat]!))).length → 0 ≤ (aX (kY lv (wS ts pts[i.toNat]! [2] ||| fU pts[i.toNat]!)))[k]! ∧ (aX (kY lv (wS ts pts[i.toNat]! [2] ||| fU pts[i.toNat]!)))[k]! < ts.length := fun h => jT hlt h
 repeat' (first|refine aD ?_|(refine aL ?_ ?_ <;> intro hc hq <;> try (exfalso;omega))|fail)
 ·(refine a7 (k + 1, _) (Le.renA [(0, 0)]) ?_ ?_)
  ·dsimp only
   refine ⟨by omega,?_,inferInstance⟩
   rw [ha]; unfold Jp;rw [c8 _ _ _ _ (by omega)]
  ·dsimp only;omega
 ·refine aH rfl ⟨?_, rfl⟩
  simp only [aM]
  rw [ha,List.take_of_length_le (by omega)]; rfl
theorem zQ (ts:List Int) (bd:List AL.Stmt) (pts:List Pnt) (x:Pnt) (mb:Nat) (htl:ts.length ≤ 6) (hmb:Sm mb) (hst:aN x < ts.length) (hy:0 ≤ x.y ∧ (3 ≤ x.op → x.op ≤ 7 → x.y < ts.length)):PC Tryz.prog 134 [aG ts bd pts,lL x,iv (mb:Int)] (fun r => r = sl CF (gO ts x (mb.testBit (aN x).toNat))):=by
 refine aB Tryz.func134 Tryz.ntmps134 ?_
 repeat' (first|(apply aI;first|(apply mK (d := 7) (e := 2);rfl;rfl)|(first|(apply aA (k := 127);rfl;(apply tX);exact Pur.pf;rfl)|(apply aA (k := 146);rfl;(apply Bb <;> (omega));exact Pur.pf;rfl)))|refine aD ?_|(refine aL ?_ ?_ <;> intro hc hq <;> try (exfalso;omega))|(refine bT ?_ ?_ <;> intro hg hq <;> try (exfalso;omega))|fail)
 all_goals first|refine aT (Le.frzD (d := 6) (i := 1) rfl rfl) ?_|refine aT (Le.frzD (d := 6) (i := 3) rfl rfl) ?_|refine aT (Le.frzD (d := 6) (i := 5) rfl rfl) ?_
 all_goals refine aH rfl ⟨?_,(by (rfl))⟩
 all_goals simp only [aM,gO]
 all_goals have h1 := jP mb (aN x).toNat
 all_goals (try (rw [if_neg (show ¬ (0 ≤ aN x ∧ ts[(aN x).toNat]! = 2 ∧ mb.testBit (aN x).toNat = true) from fun h => by omega)]))
 all_goals (simp_all <;> rfl)
theorem Cc (ts:List Int) (bd:List AL.Stmt) (pts:List Pnt) (i:Int) (mb loans:Nat) (w:WG ts pts) (hi:0 ≤ i ∧ i < pts.length) (hmb:Sm mb) (hlo:loans < 2 ^ pts.length):PC Tryz.prog 104 [aG ts bd pts,iv i,iv (mb:Int),.v (.int .u64 (loans:Int))] (fun r => r = .v (.int .u64 (Fy pts loans (gO ts pts[i.toNat]! (mb.testBit (aN pts[i.toNat]!).toNat)) 0:Nat))):=by
 have hpl := w.pl
 have htl := w.tl
 have hin : i.toNat < pts.length := by omega
 have hst := (w.set i.toNat hin).1
 have hy := w.y i.toNat hin
 have hx := w.x i.toNat hin
 have hop := w.op i.toNat hin
 have hlsm : Sm loans := ⟨Nat.lt_of_lt_of_le hlo (Nat.pow_le_pow_right (by decide) (by omega))⟩
 have hacc := A9 (mb.testBit (aN pts[i.toNat]!).toNat) w hin
 have hal := wL ts pts[i.toNat]! (mb.testBit (aN pts[i.toNat]!).toNat)
 refine aB Tryz.func104 Tryz.ntmps104 ?_
 repeat' (first|(apply aI;(apply aA (k := 134);rfl;(apply zQ <;> (assumption));exact Pur.pf;rfl))|refine aD ?_|fail)
 generalize gO ts pts[i.toNat]! (mb.testBit (aN pts[i.toNat]!).toNat) = acs at hacc hal
 refine aJ (σ := Nat × Nat) [0,3,23,24] [] (fun k => [(25,iv (k.1 : Int)),(9,.v (.int .u64 (k.2 : Int)))]) (fun k => []) (fun k => k.1 ≤ acs.length ∧ k.2 = Fy pts loans (acs.take k.1) 0 ∧ k.2 < 2 ^ pts.length) (fun k => acs.length - k.1) (0,0) ⟨by omega,rfl,Nat.pow_pos (by decide)⟩ ?_
 rintro ⟨k,a⟩ ⟨hk,ha,hab⟩
 dsimp only at hk ha hab ⊢
 by_cases hkn : k < acs.length
 ·have hcv := hacc _ (bD acs k hkn)
  have hof : ∀ V,Sm (n4 pts V) := fun V => EC w V
  have hll := iJ (loans &&& n4 pts (2 ^ (acs[k]!.var).toNat))
  have hlb : loans &&& n4 pts (2 ^ (acs[k]!.var).toNat) < 2 ^ pts.length := Nat.lt_of_le_of_lt Nat.and_le_left hlo
  have htk := c8 (fun a c => G8 pts c.write (aX (loans &&& n4 pts (2 ^ c.var.toNat))) a) acs 0 k hkn
  repeat' (first|(apply aI;first|(apply gS;rfl;rfl;infer_instance;omega;rfl;(case' kk => intro hsm))|(first|(apply aA (k := 103);rfl;(apply oZ <;> (infer_instance));(rfl);rfl)|(apply aA (k := 132);rfl;(apply vO <;> (assumption));exact Pur.pf;rfl)))|refine aD ?_|(refine aL ?_ ?_ <;> intro hc hq <;> try (exfalso;omega))|fail)
  refine aJ (σ := Nat × Nat) [0,3,11,23,24,25,36,37] [0] (fun j => [(38,iv (j.1 : Int)),(9,.v (.int .u64 (j.2 : Int)))]) (fun j => []) (fun j => j.1 ≤ (aX (loans &&& n4 pts (2 ^ (acs[k]!.var).toNat))).length ∧ j.2 = G8 pts acs[k]!.write ((aX (loans &&& n4 pts (2 ^ (acs[k]!.var).toNat))).take j.1) a ∧ j.2 < 2 ^ pts.length) (fun j => (aX (loans &&& n4 pts (2 ^ (acs[k]!.var).toNat))).length - j.1) (0,a) ⟨by omega,rfl,hab⟩ ?_
  rintro ⟨j,b⟩ ⟨hj,hb,hbb⟩
  dsimp only at hj hb hbb ⊢
  have hbsm : Sm b := ⟨Nat.lt_of_lt_of_le hbb (Nat.pow_le_pow_right (by decide) (by omega))⟩
  by_cases hjn : j < (aX (loans &&& n4 pts (2 ^ (acs[k]!.var).toNat))).length
  ·have hlz := jT hlb hjn
   have hstep : G8 pts acs[k]!.write ((aX (loans &&& n4 pts (2 ^ (acs[k]!.var).toNat))).take (j + 1)) a = if acs[k]!.write = true ∨ pts[((aX (loans &&& n4 pts (2 ^ (acs[k]!.var).toNat)))[j]!).toNat]!.op = 5 then b ||| 2 ^ ((aX (loans &&& n4 pts (2 ^ (acs[k]!.var).toNat)))[j]!).toNat else b := by
    rw [hb]; unfold G8;rw [c8 _ _ _ _ hjn]
   have hb2 : b ||| 2 ^ ((aX (loans &&& n4 pts (2 ^ (acs[k]!.var).toNat)))[j]!).toNat < 2 ^ pts.length := Nat.or_lt_two_pow hbb (Nat.pow_lt_pow_right (by decide) (by omega))
   repeat' (first|(apply aI;(apply gS;rfl;rfl;infer_instance;omega;rfl;(case' kk => intro hsm)))|refine aD ?_|(refine aL ?_ ?_ <;> intro hc hq <;> try (exfalso;omega))|(refine bT ?_ ?_ <;> intro hg hq <;> try (exfalso;omega))|fail)
   all_goals first
    | ((refine a7 (j + 1, b ||| 2 ^ ((aX (loans &&& n4 pts (2 ^ (acs[k]!.var).toNat)))[j]!).toNat) (Le.renA [(0, 0)]) ?_ ?_)
       ·dsimp only
        refine ⟨by omega,?_,hb2⟩
        rw [hstep,if_pos (by first|exact .inl (by assumption)|exact .inr (by assumption))]
       ·dsimp only;omega)
    | ((refine a7 (j + 1, b) (Le.renA [(0, 0)]) ?_ ?_)
       ·dsimp only
        refine ⟨by omega,?_,hbb⟩
        rw [hstep,if_neg (fun h => h.elim (fun h1 => Bool.noConfusion (h1.symm.trans (by assumption : acs[k]!.write = false))) (fun h2 => absurd h2 (by assumption)))]
       ·dsimp only;omega)
  ·repeat' (first | refine aD ?_ | (refine aL ?_ ?_ <;> intro hc hq <;> try (exfalso; omega))|fail)
   (refine a7 (k + 1,b) (Le.renA []) ?_ ?_)
   ·dsimp only
    refine ⟨by omega,?_,hbb⟩
    rw [hb,List.take_of_length_le (by omega),ha]; unfold Fy;rw [htk]
   ·dsimp only;omega
 ·repeat' (first | refine aD ?_ | (refine aL ?_ ?_ <;> intro hc hq <;> try (exfalso; omega))|fail)
  refine aH rfl ⟨?_,rfl⟩
  simp only [aM]
  rw [ha,List.take_of_length_le (by omega)]
end Go.Proofs.YtgkalkgplcdnkaaGreatDoor
