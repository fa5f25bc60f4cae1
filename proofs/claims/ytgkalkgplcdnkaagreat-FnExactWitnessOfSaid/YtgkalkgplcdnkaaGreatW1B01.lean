/-
 A part of the proofs over this program: rules and contracts of its functions (the contracts).
-/
import Derived.Test.YtgkalkgplcdnkaaGreatW1A07
import Derived.Test.YtgkalkgplcdnkaaGreatRows
set_option linter.unusedVariables false
set_option linter.unusedSimpArgs false
set_option maxHeartbeats 8000000
set_option maxRecDepth 4000
attribute [local irreducible] Go.AL.RW Go.AL.AW Go.AL.Stop
namespace Go.Proofs.YtgkalkgplcdnkaaGreat
open Go.AL
theorem rC (a b c:Int):PC Tryz.prog 55 [iv a,iv b,iv c] (fun r => r = bv (decide (b ≤ a) && decide (a ≤ c))):=by
 refine aD Tryz.func55 Tryz.ntmps55 ?_
 repeat' (first|refine aC ?_|(refine b9 ?_ ?_ <;> intro hg hq <;> try (exfalso;omega))|refine c7 ?_|fail)
 all_goals (refine ⟨?_,rfl⟩; simp only [aN,AV.v.injEq,Value.bool.injEq,Value.int.injEq,true_and])
 all_goals grind
theorem zF (t:Int):PC Tryz.prog 185 [iv t] (fun r => r = bv (iH t)):=by
 refine aD Tryz.func185 Tryz.ntmps185 ?_
 repeat' (first|refine aC ?_|(refine b9 ?_ ?_ <;> intro hg hq <;> try (exfalso;omega))|refine c7 ?_|fail)
 all_goals (refine ⟨?_,rfl⟩; simp only [aN,AV.v.injEq,Value.bool.injEq,Value.int.injEq,true_and])
 all_goals grind [iH]
theorem D7 (t:Int):PC Tryz.prog 181 [iv t] (fun r => r = bv (iH t)):=by
 refine aD Tryz.func181 Tryz.ntmps181 ?_
 repeat' (first|refine aC ?_|(refine b9 ?_ ?_ <;> intro hg hq <;> try (exfalso;omega))|refine c7 ?_|fail)
 all_goals (refine ⟨?_,rfl⟩; simp only [aN,AV.v.injEq,Value.bool.injEq,Value.int.injEq,true_and])
 all_goals grind [iH]
theorem zW (t:Int):PC Tryz.prog 210 [iv t] (fun r => r = bv (decide (t = 2) || iH t)):=by
 refine aD Tryz.func210 Tryz.ntmps210 ?_
 repeat' (first|(apply aF;(apply aA (k := 185);rfl;(apply zF);(rfl);rfl))|refine aC ?_|(refine b9 ?_ ?_ <;> intro hg hq <;> try (exfalso;omega))|refine c7 ?_|fail)
 all_goals (refine ⟨?_,rfl⟩; simp only [aN,AV.v.injEq,Value.bool.injEq,Value.int.injEq,true_and])
 all_goals grind
theorem Ax (t:Int):PC Tryz.prog 174 [iv t] (fun r => r = bv (decide (t = 9) || decide (t = 10))):=by
 refine aD Tryz.func174 Tryz.ntmps174 ?_
 repeat' (first|refine aC ?_|(refine b9 ?_ ?_ <;> intro hg hq <;> try (exfalso;omega))|refine c7 ?_|fail)
 all_goals (refine ⟨?_,rfl⟩; simp only [aN,AV.v.injEq,Value.bool.injEq,Value.int.injEq,true_and])
 all_goals grind
theorem Ff (ts:List Int) (v:Int):PC Tryz.prog 209 [sl cI ts,iv v] (fun r => r = iv (gQ ts v)):=by
 refine aD Tryz.func209 Tryz.ntmps209 ?_
 repeat' (first|refine aC ?_|(refine aJ ?_ ?_ <;> intro hc hq <;> try (exfalso;omega))|(refine b9 ?_ ?_ <;> intro hg hq <;> try (exfalso;omega))|refine c7 ?_|fail)
 all_goals (refine ⟨?_,rfl⟩; simp only [aN,AV.v.injEq,Value.bool.injEq,Value.int.injEq,true_and])
 all_goals grind [gQ]
theorem D9 (ts:List Int) (v:Int) (hl:ts.length ≤ 1048576):PC Tryz.prog 56 [sl cI ts,iv v] (fun r => r = iv (gQ ts v)):=by
 refine aD Tryz.func56 Tryz.ntmps56 ?_
 repeat' (first|(apply aF;(apply aA (k := 55);rfl;(apply rC);(rfl);rfl))|refine aC ?_|(refine aJ ?_ ?_ <;> intro hc hq <;> try (exfalso;omega))|refine c7 ?_|fail)
 all_goals (refine ⟨?_,rfl⟩; simp only [aN,AV.v.injEq,Value.bool.injEq,Value.int.injEq,true_and])
 all_goals grind [gQ]
theorem zQ (ts:List Int) (s:AL.Stmt) (hl:bG ts = true):PC Tryz.prog 175 [sl cI ts,bV s] (fun r => r = bv (s.th.isEmpty && s.el.isEmpty && fA ts s)):=by
 have hl2 := k8 hl
 have hx := gN hl s.x
 have hy := gN hl s.y
 refine aD Tryz.func175 Tryz.ntmps175 ?_
 repeat' (first|(apply aF;(first|(apply aA (k := 55);rfl;(apply rC);(rfl);rfl)|(apply aA (k := 56);rfl;(apply D9 <;> (omega));exact Pur.pf;rfl)|(apply aA (k := 210);rfl;(apply zW);(rfl);rfl)))|refine aC ?_|(refine aJ ?_ ?_ <;> intro hc hq <;> try (exfalso;omega))|(refine b9 ?_ ?_ <;> intro hg hq <;> try (exfalso;omega))|refine cC ?_|refine c7 ?_|fail)
 all_goals (refine ⟨?_,rfl⟩; simp only [aN,AV.v.injEq,Value.bool.injEq,Value.int.injEq,true_and])
 all_goals (cases hth : s.th <;> cases hel : s.el <;> simp only [hth,hel,List.length_nil,List.length_cons,List.isEmpty_nil,List.isEmpty_cons,Bool.true_and,Bool.false_and] at *)
 all_goals (try unfold fA)
 all_goals (try simp only [iH,Bool.or_eq_true,Bool.or_eq_false_iff,decide_eq_true_eq,decide_eq_false_iff_not] at *)
 all_goals grind
theorem z8 (ts:List Int) (s:AL.Stmt) (hl:bG ts = true):PC Tryz.prog 170 [sl cI ts,bV s] (fun r => r = bv (fA ts s)):=by
 have hl2 := k8 hl
 have hx := gN hl s.x
 have hy := gN hl s.y
 refine aD Tryz.func170 Tryz.ntmps170 ?_
 repeat' (first|(apply aF;(apply aA (k := 209);rfl;(apply Ff);exact Pur.pf;rfl))|refine aC ?_|(refine aJ ?_ ?_ <;> intro hc hq <;> try (exfalso;omega))|(refine b9 ?_ ?_ <;> intro hg hq <;> try (exfalso;omega))|refine c7 ?_|fail)
 all_goals (refine ⟨?_,rfl⟩; simp only [aN,AV.v.injEq,Value.bool.injEq,Value.int.injEq,true_and])
 all_goals (try unfold fA)
 all_goals grind
theorem Dp (ts:List Int) (hl:bG ts = true) (m:Nat) (ih:∀ l (d:Int),aM l < m → 0 ≤ d → d ≤ 1000 → PC Tryz.prog 85 [sl cI ts,sl aR l,iv d] (fun r => r = bv (okL ts d.toNat l))) (s:AL.Stmt) (d:Int) (hs:cJ s ≤ m) (hd0:0 ≤ d) (hd:d ≤ 1000) :
  PC Tryz.prog 134 [sl cI ts,bV s,iv d] (fun r => r = bv (sG ts d.toNat s)) := by
 rw [Iq ts d hd0]
 refine aD Tryz.func134 Tryz.ntmps134 ?_
 repeat' (first|(apply aF;(first|(apply aA (k := 85);rfl;(apply ih <;> (first|omega|(have := iA s;omega)));exact Pur.pf;rfl)|(apply aA (k := 170);rfl;(apply z8 <;> (assumption));exact Pur.pf;rfl)))|refine aC ?_|(refine aJ ?_ ?_ <;> intro hc hq <;> try (exfalso;omega))|(refine b9 ?_ ?_ <;> intro hg hq <;> try (exfalso;omega))|refine c7 ?_|fail)
 all_goals (refine ⟨?_,rfl⟩; simp only [aN,AV.v.injEq,Value.bool.injEq,Value.int.injEq,true_and])
 all_goals (cases hth : s.th <;> cases hel : s.el <;> simp only [hth,hel,List.length_nil,List.length_cons,List.isEmpty_nil,List.isEmpty_cons,Bool.true_and,Bool.false_and] at *)
 all_goals grind
theorem Cy (ts:List Int) (hl:bG ts = true) (m:Nat) (ih:∀ s (d:Int),cJ s ≤ m → 0 ≤ d → d ≤ 1000 → PC Tryz.prog 134 [sl cI ts,bV s,iv d] (fun r => r = bv (sG ts d.toNat s))) (l:List AL.Stmt) (d:Int) (hs:aM l ≤ m) (hm:m ≤ 100000000) (hd0:0 ≤ d) (hd:d ≤ 1000) :
  PC Tryz.prog 85 [sl cI ts,sl aR l,iv d] (fun r => r = bv (okL ts d.toNat l)) := by
 have hlen := dX l
 refine aD Tryz.func85 Tryz.ntmps85 ?_
 repeat' (first|refine aC ?_|fail)
 refine aH (σ := Nat) [0,1,2] [] (fun k => [(7,iv (k : Int))]) (fun k => []) (fun k => k ≤ l.length ∧ ∀ i,i < k → sG ts d.toNat l[i]! = true) (fun k => l.length - k) (0) ⟨by omega,by omega⟩ ?_
 intro k ⟨hk,hall⟩
 have hck := eZ l k
 repeat' (first|(apply aF;(apply aA (k := 134);rfl;(apply ih _ d (Nat.le_trans (hck (by omega)) hs) hd0 hd);exact Pur.pf;rfl))|refine aC ?_|(refine aJ ?_ ?_ <;> intro hc hq <;> try (exfalso;omega))|refine c7 ?_|fail)
 ·(refine ⟨?_, rfl⟩; simp only [aN, AV.v.injEq, Value.bool.injEq, Value.int.injEq, true_and])
  rw [Gt (k := k) (by omega) hq]
 ·(refine bC (k + 1) (Le.renA []) ?_ ?_)
  ·grind
  ·omega
 ·(refine ⟨?_, rfl⟩; simp only [aN, AV.v.injEq, Value.bool.injEq, Value.int.injEq, true_and])
  rw [Ha (fun i hi => hall i (by omega))]
theorem HW (ts:List Int) (hl:bG ts = true):∀ (m:Nat),m ≤ 100000000 → (∀ s (d:Int),cJ s ≤ m → 0 ≤ d → d ≤ 1000 → PC Tryz.prog 134 [sl cI ts,bV s,iv d] (fun r => r = bv (sG ts d.toNat s))) ∧
  (∀ l (d : Int),aM l ≤ m → 0 ≤ d → d ≤ 1000 → PC Tryz.prog 85 [sl cI ts,sl aR l,iv d] (fun r => r = bv (okL ts d.toNat l))) := by
 intro m
 induction m using Nat.strongRecOn with
 | ind m ih =>
  intro hm
  have h1 : ∀ s (d : Int), cJ s ≤ m → 0 ≤ d → d ≤ 1000 → PC Tryz.prog 134 [sl cI ts, bV s, iv d] (fun r => r = bv (sG ts d.toNat s)) :=
   fun s d h1 h2 h3 => Dp ts hl m (fun l d' g1 g2 g3 => (ih (aM l) g1 (by omega)).2 l d' (Nat.le_refl _) g2 g3) s d h1 h2 h3
  exact ⟨h1,fun l d g1 g2 g3 => Cy ts hl m h1 l d g1 hm g2 g3⟩
theorem Ar (m0:Nat) (ih:∀ l (most:Int),aM l < m0 → -1 ≤ most → most ≤ 1000 → PC Tryz.prog 86 [sl aR l,iv most] (fun r => r = iv (lR most 0 l))) (l:List AL.Stmt) (most:Int) (hs:aM l ≤ m0) (hm:m0 ≤ 100000000) (hd0:-1 ≤ most) (hd:most ≤ 1000) :
  PC Tryz.prog 86 [sl aR l,iv most] (fun r => r = iv (lR most 0 l)) := by
 have hlen := dX l
 have hall := k5 l most 0
 refine aD Tryz.func86 Tryz.ntmps86 ?_
 repeat' (first|refine aC ?_|fail)
 refine aH (σ := Nat × Int) [0,1] [] (fun k => [(6,iv (k.1 : Int)),(5,iv k.2)]) (fun k => []) (fun k => k.1 ≤ l.length ∧ lR most k.2 (l.drop k.1) = lR most 0 l ∧ 0 ≤ k.2 ∧ k.2 ≤ aM l) (fun k => l.length - k.1) (0,0) ⟨by omega,rfl,by omega,by omega⟩ ?_
 rintro ⟨k,n⟩ ⟨hk,hn,hn0,hn1⟩
 dsimp only at hk hn hn0 hn1 ⊢
 have hck := eZ l k
 have hct := iA l[k]!
 have b1 := k5 l[k]!.th (most - n) 0
 have b2 := fun z => k5 l[k]!.el z 0
 have b3 := Ec l[k]! most n
 have b4 := k5 (l.drop (k + 1)) most (Ej most n l[k]!)
 have b5 := F7 most n l k
 rw [Hq] at b3 b4 b5
 repeat' (first|(apply aF;(apply aA (k := 86);rfl;(apply ih <;> omega);exact Pur.pf;rfl))|refine aC ?_|(refine aJ ?_ ?_ <;> intro hc hq <;> try (exfalso;omega))|(refine b9 ?_ ?_ <;> intro hg hq <;> try (exfalso;omega))|refine c7 ?_|fail)
 ·(refine bC (k + 1, n + 1 + lR (most - n) 0 l[k]!.th + lR (most - (n + 1 + lR (most - n) 0 l[k]!.th)) 0 l[k]!.el) (Le.renA []) ?_ ?_)
  ·dsimp only;grind
  ·dsimp only;omega
 ·(refine bC (k + 1, n + 1 + lR (most - n) 0 l[k]!.th) (Le.renA []) ?_ ?_)
  ·dsimp only;grind
  ·dsimp only;omega
 ·(refine ⟨?_, rfl⟩; simp only [aN, AV.v.injEq, Value.bool.injEq, Value.int.injEq, true_and])
  rw [← hn,ED _ _ _ (by omega)]
 ·(refine ⟨?_, rfl⟩; simp only [aN, AV.v.injEq, Value.bool.injEq, Value.int.injEq, true_and])
  rw [← hn,HD _ _ _ _ (by omega)]
theorem Db (l:List AL.Stmt) (most:Int) (hs:aM l ≤ 100000000) (hd0:-1 ≤ most) (hd:most ≤ 1000) :
  PC Tryz.prog 86 [sl aR l,iv most] (fun r => r = iv (lR most 0 l)) := by
 have h : ∀ (m : Nat), m ≤ 100000000 → ∀ l (most : Int), aM l ≤ m → -1 ≤ most → most ≤ 1000 → PC Tryz.prog 86 [sl aR l, iv most] (fun r => r = iv (lR most 0 l)) := by
  intro m
  induction m using Nat.strongRecOn with
  | ind m ih =>
   intro hm l most h1 h2 h3
   exact Ar m (fun l' most' g1 g2 g3 => ih _ g1 (by omega) l' most' (Nat.le_refl _) g2 g3) l most h1 hm h2 h3
 exact h _ hs l most (Nat.le_refl _) hd0 hd
theorem Gf (ts:List Int) (l:List AL.Stmt) (d:Int) (hl:bG ts = true) (hs:aM l ≤ 100000000) (hd0:0 ≤ d) (hd:d ≤ 1000):PC Tryz.prog 85 [sl cI ts,sl aR l,iv d] (fun r => r = bv (okL ts d.toNat l)) :=
 (HW ts hl _ hs).2 l d (Nat.le_refl _) hd0 hd
theorem s7 (ts:List Int) (hl:ts.length ≤ 1048576):PC Tryz.prog 84 [sl cI ts] (fun r => r = bv (bG ts)):=by
 refine aD Tryz.func84 Tryz.ntmps84 ?_
 repeat' (first|refine aC ?_|fail)
 refine aH (σ := Nat) [0] [] (fun k => [(3,iv (k : Int))]) (fun k => []) (fun k => k ≤ ts.length ∧ ∀ i,i < k → 1 ≤ ts[i]! ∧ ts[i]! ≤ 4) (fun k => ts.length - k) (0) ⟨by omega,by omega⟩ ?_
 intro k ⟨hk,hall⟩
 repeat' (first|refine aC ?_|(refine aJ ?_ ?_ <;> intro hc hq <;> try (exfalso;omega))|(refine b9 ?_ ?_ <;> intro hg hq <;> try (exfalso;omega))|refine c7 ?_|fail)
 ·(refine ⟨?_, rfl⟩; simp only [aN, AV.v.injEq, Value.bool.injEq, Value.int.injEq, true_and])
  unfold bG;grind [lG,lJ]
 ·(refine bC (k + 1) (Le.renA []) ?_ ?_)
  ·grind
  ·omega
 ·(refine ⟨?_, rfl⟩; simp only [aN, AV.v.injEq, Value.bool.injEq, Value.int.injEq, true_and])
  unfold bG;grind [lG,lJ]
 ·(refine ⟨?_, rfl⟩; simp only [aN, AV.v.injEq, Value.bool.injEq, Value.int.injEq, true_and])
  unfold bG;grind [lG,lJ]
theorem nN (p:Prg) (hl:p.types.length ≤ 1048576) (hs:aM p.body ≤ 100000000):PC Tryz.prog 40 [cA p] (fun r => r = bv (bR p)):=by
 unfold bR
 cases ht : bG p.types
 ·refine aD Tryz.func40 Tryz.ntmps40 ?_
  repeat' (first|(apply aF;(apply aA (k := 84);rfl;(apply s7 <;> (assumption));exact Pur.pf;rfl))|refine aC ?_|refine c7 ?_|fail)
  (refine ⟨?_,rfl⟩; simp only [aN,AV.v.injEq,Value.bool.injEq,Value.int.injEq,true_and])
  rfl
 ·refine aD Tryz.func40 Tryz.ntmps40 ?_
  repeat' (first|(apply aF;(first|(apply aA (k := 84);rfl;(apply s7 <;> (assumption));exact Pur.pf;rfl)|(apply aA (k := 85);rfl;(apply Gf <;> (first|assumption|omega));exact Pur.pf;rfl)|(apply aA (k := 86);rfl;(apply Db <;> (first|assumption|omega));exact Pur.pf;rfl)))|refine aC ?_|(refine b9 ?_ ?_ <;> intro hg hq <;> try (exfalso;omega))|refine c7 ?_|fail)
  ·(refine ⟨?_, rfl⟩; simp only [aN, AV.v.injEq, Value.bool.injEq, Value.int.injEq, true_and])
   rw [show okL p.types 4 p.body = true from hq]; simp only [Bool.true_and,Jc,decide_eq_decide]; omega
  ·(refine ⟨?_, rfl⟩; simp only [aN, AV.v.injEq, Value.bool.injEq, Value.int.injEq, true_and])
   rw [show okL p.types 4 p.body = false from hq]; rfl
end Go.Proofs.YtgkalkgplcdnkaaGreat
namespace Go.Proofs.YtgkalkgplcdnkaaGreat
open Go.AL Go.RowKit
variable {N : Nat} {Q : Exit → AS → Prop} {all : Array Oper} {rest : List Oper} {tsl : List (Nat × AV)} {hsl : List (Nat × Option (List AV))} {nidl : Nat} {z0 : Lo} {md : Md} {d : Nat} {ty : TypeId} {pos : String} {af : Array Edge} {tys : Array TypeId}
theorem Ip {ts:List Int}{s:AL.Stmt}{nest c:Int}{x0 x1 x2 x3:Operand}{i0:Nat}(ha0:ev (lk tsl) x0 = some (sl cI ts)) (ha1:ev (lk tsl) x1 = some (bV s)) (ha2:ev (lk tsl) x2 = some (iv nest)) (ha3:ev (lk tsl) x3 = some (.optr i0 0)) (hH0:aO hsl i0 = some ([iv c])) (hmc:MC Tryz.prog 138 [sl cI ts,bV s,iv nest,.optr 0 0] [(0,some ([iv c]))] 1 (fun _:Unit => True) (fun _ => bv (kB ts nest c s).1) (fun _ => [(0,some ([iv (kB ts nest c s).2]))])) (hM:Nat.ble (nidl + 0) aT = true) (hN:Nat.blt d N = true){md':Md}[hmd:MdA md (jU [x0,x1,x2,x3] ++ [.inr i0]) (List.map Sum.inr (List.map Prod.fst ([(i0,some ([iv (kB ts nest c s).2]))]:List (Nat × Option (List AV)))) ++ [.inl d]) md'] (kk:RW Tryz.prog N all Q md' rest ⟨(d,bv (kB ts nest c s).1) :: tsl,nK hsl [(i0,some ([iv (kB ts nest c s).2]))],nidl + 0,z0⟩):RW Tryz.prog N all Q md (⟨some d,.call ⟨.value (.func 138),#[x0,x1,x2,x3],tys⟩,ty,pos,af,none⟩ :: rest) ⟨tsl,hsl,nidl,z0⟩:=by
 exact bY (l := [x0,x1,x2,x3]) [i0] 1 [(i0,some ([iv (kB ts nest c s).2]))] hmc (avs := [sl cI ts,bV s,iv nest,.optr i0 0]) (by simp only [evL,ha0,ha1,ha2,ha3]) rfl hM hN (md' := md') (hmd := hmd) kk
theorem qC {ts:List Int}{l:List AL.Stmt}{nest c:Int}{x0 x1 x2 x3:Operand}{i0:Nat}(ha0:ev (lk tsl) x0 = some (sl cI ts)) (ha1:ev (lk tsl) x1 = some (sl aR l)) (ha2:ev (lk tsl) x2 = some (iv nest)) (ha3:ev (lk tsl) x3 = some (.optr i0 0)) (hH0:aO hsl i0 = some ([iv c])) (hmc:MC Tryz.prog 90 [sl cI ts,sl aR l,iv nest,.optr 0 0] [(0,some ([iv c]))] 1 (fun _:Unit => True) (fun _ => bv (iR ts nest c l).1) (fun _ => [(0,some ([iv (iR ts nest c l).2]))])) (hM:Nat.ble (nidl + 0) aT = true) (hN:Nat.blt d N = true){md':Md}[hmd:MdA md (jU [x0,x1,x2,x3] ++ [.inr i0]) (List.map Sum.inr (List.map Prod.fst ([(i0,some ([iv (iR ts nest c l).2]))]:List (Nat × Option (List AV)))) ++ [.inl d]) md'] (kk:RW Tryz.prog N all Q md' rest ⟨(d,bv (iR ts nest c l).1) :: tsl,nK hsl [(i0,some ([iv (iR ts nest c l).2]))],nidl + 0,z0⟩):RW Tryz.prog N all Q md (⟨some d,.call ⟨.value (.func 90),#[x0,x1,x2,x3],tys⟩,ty,pos,af,none⟩ :: rest) ⟨tsl,hsl,nidl,z0⟩:=by
 exact bY (l := [x0,x1,x2,x3]) [i0] 1 [(i0,some ([iv (iR ts nest c l).2]))] hmc (avs := [sl cI ts,sl aR l,iv nest,.optr i0 0]) (by simp only [evL,ha0,ha1,ha2,ha3]) rfl hM hN (md' := md') (hmd := hmd) kk
theorem GO (ts:List Int) (htO:bG ts = true) (m:Nat) (scanAll_ih:∀ l nest c,aM l < m → 0 ≤ nest → nest ≤ 4 → 0 ≤ c → c ≤ 30 → MC Tryz.prog 90 [sl cI ts,sl aR l,iv nest,.optr 0 0] [(0,some ([iv c]))] 1 (fun _:Unit => True) (fun _ => bv (iR ts nest c l).1) (fun _ => [(0,some ([iv (iR ts nest c l).2]))])) (s:AL.Stmt) (nest c:Int) (hs:cJ s ≤ m) (hn0:0 ≤ nest) (hn:nest ≤ 4) (hc0:0 ≤ c) (hc:c ≤ 30):MC Tryz.prog 138 [sl cI ts,bV s,iv nest,.optr 0 0] [(0,some ([iv c]))] 1 (fun _:Unit => True) (fun _ => bv (kB ts nest c s).1) (fun _ => [(0,some ([iv (kB ts nest c s).2]))]):=by
 have ct := iA s
 have hb1 := Jn ts s.th (nest + 1) (c + 1)
 refine cS Tryz.func138 Tryz.ntmps138 ?_
 repeat' (first|(apply aF;(first|(apply qC;rfl;rfl;rfl;rfl;(rfl);(apply scanAll_ih <;> (first|assumption|omega|grind));rfl;rfl)|(apply aA (k := 174);rfl;(apply Ax);(rfl);rfl)|(apply aA (k := 175);rfl;(apply zQ <;> (assumption));exact Pur.pf;rfl)))|refine aC ?_|(refine aJ ?_ ?_ <;> intro hc hq <;> try (exfalso;omega))|(refine b9 ?_ ?_ <;> intro hg hq <;> try (exfalso;omega))|fail)
 all_goals (refine aI rfl ?_; refine eI () trivial ?_ ⟨sE ?_,trivial⟩)
 all_goals (try simp only [aN,AV.v.injEq,Value.bool.injEq,Value.int.injEq,true_and,iQ,List.take,List.drop,List.length,List.append,List.nil_append,List.append_nil,Option.some.injEq,List.cons.injEq,and_true])
 all_goals rw [Hh]
 all_goals clear scanAll_ih
 all_goals (cases hel : s.el <;> simp only [hel,List.length_nil,List.length_cons] at * <;> grind)
theorem Ao (ts:List Int) (m:Nat) (hm:m ≤ 100000000) (scan_ih:∀ s nest c,cJ s ≤ m → 0 ≤ nest → nest ≤ 4 → 0 ≤ c → c ≤ 30 → MC Tryz.prog 138 [sl cI ts,bV s,iv nest,.optr 0 0] [(0,some ([iv c]))] 1 (fun _:Unit => True) (fun _ => bv (kB ts nest c s).1) (fun _ => [(0,some ([iv (kB ts nest c s).2]))])) (l:List AL.Stmt) (nest c:Int) (hs:aM l ≤ m) (hn0:0 ≤ nest) (hn:nest ≤ 4) (hc0:0 ≤ c) (hc:c ≤ 30):MC Tryz.prog 90 [sl cI ts,sl aR l,iv nest,.optr 0 0] [(0,some ([iv c]))] 1 (fun _:Unit => True) (fun _ => bv (iR ts nest c l).1) (fun _ => [(0,some ([iv (iR ts nest c l).2]))]):=by
 have hlen := dX l
 refine cS Tryz.func90 Tryz.ntmps90 ?_
 repeat' (first|refine aC ?_|fail)
 refine aH (σ := Nat × Int) [0,2,3,11,12] [] (fun k => [(13,iv (k.1 : Int))]) (fun k => [(0,some [iv k.2])]) (fun k => k.1 ≤ l.length ∧ iR ts nest k.2 (l.drop k.1) = iR ts nest c l ∧ 0 ≤ k.2 ∧ k.2 ≤ 30) (fun k => l.length - k.1) (0,c) ⟨by omega,rfl,by omega,by omega⟩ ?_
 rintro ⟨k,c'⟩ ⟨hk,hn,hn0,hn1⟩
 dsimp only at hk hn hn0 hn1 ⊢
 have hck := eZ l k
 have hb1 := J6 ts l[k]! nest c'
 have hst := @scL_stop ts nest c' l k
 repeat' (first|(apply aF;(apply Ip;rfl;rfl;rfl;rfl;(rfl);(apply scan_ih <;> (first|assumption|omega));rfl;rfl))|refine aC ?_|(refine aJ ?_ ?_ <;> intro hc hq <;> try (exfalso;omega))|fail)
 ·(refine aI rfl ?_; refine eI () trivial ?_ ⟨sE ?_, trivial⟩)
  all_goals (try simp only [aN,AV.v.injEq,Value.bool.injEq,Value.int.injEq,true_and,iQ,List.take,List.drop,List.length,List.append,List.nil_append,List.append_nil,Option.some.injEq,List.cons.injEq,and_true])
  all_goals (rw [← hn,hst (by omega)]; grind)
 ·(refine bC (k + 1, (kB ts nest c' l[k]!).2) (Le.renA []) ?_ ?_)
  ·dsimp only;grind
  ·dsimp only;omega
 ·(refine aI rfl ?_; refine eI () trivial ?_ ⟨sE ?_, trivial⟩)
  all_goals (try simp only [aN,AV.v.injEq,Value.bool.injEq,Value.int.injEq,true_and,iQ,List.take,List.drop,List.length,List.append,List.nil_append,List.append_nil,Option.some.injEq,List.cons.injEq,and_true])
  all_goals (rw [← hn,List.drop_of_length_le (by omega),iR])
theorem Dl (ts:List Int) (hl:bG ts = true):∀ (m:Nat),m ≤ 100000000 → (∀ s (nest c:Int),cJ s ≤ m → 0 ≤ nest → nest ≤ 4 → 0 ≤ c → c ≤ 30 → MC Tryz.prog 138 [sl cI ts,bV s,iv nest,.optr 0 0] [(0,some ([iv c]))] 1 (fun _:Unit => True) (fun _ => bv (kB ts nest c s).1) (fun _ => [(0,some ([iv (kB ts nest c s).2]))])) ∧
  (∀ l (nest c : Int),aM l ≤ m → 0 ≤ nest → nest ≤ 4 → 0 ≤ c → c ≤ 30 → MC Tryz.prog 90 [sl cI ts,sl aR l,iv nest,.optr 0 0] [(0,some ([iv c]))] 1 (fun _ : Unit => True) (fun _ => bv (iR ts nest c l).1) (fun _ => [(0,some ([iv (iR ts nest c l).2]))])) := by
 intro m
 induction m using Nat.strongRecOn with
 | ind m ih =>
  intro hm
  have h1 : ∀ s (nest c : Int), cJ s ≤ m → 0 ≤ nest → nest ≤ 4 → 0 ≤ c → c ≤ 30 → MC Tryz.prog 138 [sl cI ts, bV s, iv nest, .optr 0 0] [(0, some ([iv c]))] 1 (fun _ : Unit => True) (fun _ => bv (kB ts nest c s).1) (fun _ => [(0, some ([iv (kB ts nest c s).2]))]) :=
   fun s nest c h1 h2 h3 h4 h5 => GO ts hl m (fun l nest c g1 g2 g3 g4 g5 => (ih (aM l) g1 (by omega)).2 l nest c (Nat.le_refl _) g2 g3 g4 g5) s nest c h1 h2 h3 h4 h5
  exact ⟨h1,fun l nest c g1 g2 g3 g4 g5 => Ao ts m hm h1 l nest c g1 g2 g3 g4 g5⟩
theorem Cn (ts:List Int) (l:List AL.Stmt) (nest c:Int) (hl:bG ts = true) (hs:aM l ≤ 100000000) (hn0:0 ≤ nest) (hn:nest ≤ 4) (hc0:0 ≤ c) (hc:c ≤ 30):MC Tryz.prog 90 [sl cI ts,sl aR l,iv nest,.optr 0 0] [(0,some ([iv c]))] 1 (fun _:Unit => True) (fun _ => bv (iR ts nest c l).1) (fun _ => [(0,some ([iv (iR ts nest c l).2]))]) :=
 (Dl ts hl _ hs).2 l nest c (Nat.le_refl _) hn0 hn hc0 hc
theorem A5 (t:Int):PC Tryz.prog 137 [iv t] (fun r => r = bv (!(decide (1 ≤ t) && decide (t ≤ 4)))):=by
 refine aD Tryz.func137 Tryz.ntmps137 ?_
 repeat' (first|(apply aF;(apply aA (k := 55);rfl;(apply rC);(rfl);rfl))|refine aC ?_|refine c7 ?_|fail)
 all_goals (refine ⟨?_,rfl⟩; simp only [aN,AV.v.injEq,Value.bool.injEq,Value.int.injEq,true_and])
def qB (ts : List Int) : Int := match ts.findIdx? (fun t => !(decide (1 ≤ t) && decide (t ≤ 4))) with | some i => i | none => -1
theorem E7 (ts:List Int) (hl:ts.length ≤ 1048576):PC Tryz.prog 156 [sl cI ts,.v (.func (.func 137) #[] #[])] (fun r => r = iv (qB ts)):=by
 refine aD Tryz.func156 Tryz.ntmps156 ?_
 repeat' (first|refine aC ?_|fail)
 refine aH (σ := Nat) [0,1,7] [] (fun k => [(8,iv (k : Int))]) (fun k => []) (fun k => k ≤ ts.length ∧ ∀ i,i < k → 1 ≤ ts[i]! ∧ ts[i]! ≤ 4) (fun k => ts.length - k) (0) ⟨by omega,by omega⟩ ?_
 intro k ⟨hk,hall⟩
 repeat' (first|(apply aF;(apply jA;rfl;rfl;infer_instance;rfl;(apply A5);(rfl);rfl))|refine aC ?_|(refine aJ ?_ ?_ <;> intro hc hq <;> try (exfalso;omega))|refine c7 ?_|fail)
 ·(refine ⟨?_, rfl⟩; simp only [aN, AV.v.injEq, Value.bool.injEq, Value.int.injEq, true_and])
  have hlt : k < ts.length := by omega
  have : ts.findIdx? (fun t => !(decide (1 ≤ t) && decide (t ≤ 4))) = some k := by
   rw [List.findIdx?_eq_some_iff_getElem]
   refine ⟨hlt,?_,fun j hj => ?_⟩
   ·rw [← aW ts k hlt]; grind
   ·have := hall j hj;rw [aW ts j (by omega)] at this;simp;omega
  simp only [qB,this]
 ·(refine bC (k + 1) (Le.renA []) ?_ ?_)
  ·grind
  ·omega
 ·(refine ⟨?_, rfl⟩; simp only [aN, AV.v.injEq, Value.bool.injEq, Value.int.injEq, true_and])
  have : ts.findIdx? (fun t => !(decide (1 ≤ t) && decide (t ≤ 4))) = none := by
   rw [List.findIdx?_eq_none_iff]
   intro x hx
   obtain ⟨i,hi,rfl⟩ := List.getElem_of_mem hx
   have := hall i (by omega);rw [aW ts i hi] at this;simp;omega
  simp only [qB,this]
theorem Dx (ts:List Int):decide (0 ≤ qB ts) = !(ts.all (fun t => decide (1 ≤ t) && decide (t ≤ 4))):=by
 unfold qB
 split
 ·rename_i i h
  obtain ⟨h1,h2,_⟩ := List.findIdx?_eq_some_iff_getElem.1 h
  have : ts.all (fun t => decide (1 ≤ t) && decide (t ≤ 4)) = false := by
   rw [List.all_eq_false]; exact ⟨ts[i],List.getElem_mem h1,by simp at h2 ⊢; omega⟩
  rw [this]; simp
 ·rename_i h
  rw [List.findIdx?_eq_none_iff] at h
  have : ts.all (fun t => decide (1 ≤ t) && decide (t ≤ 4)) = true := by
   rw [List.all_eq_true]; intro x hx;simpa using h x hx
  rw [this]; rfl
theorem Dn (ts:List Int) (hl:ts.length ≤ 1048576):PC Tryz.prog 115 [sl cI ts,.v (.func (.func 137) #[] #[])] (fun r => r = bv (!(ts.all (fun t => decide (1 ≤ t) && decide (t ≤ 4))))):=by
 refine aD Tryz.func115 Tryz.ntmps115 ?_
 repeat' (first|(apply aF;(apply aA (k := 156);rfl;(apply E7 <;> (assumption));exact Pur.pf;rfl))|refine aC ?_|refine c7 ?_|fail)
 (refine ⟨?_,rfl⟩; simp only [aN,AV.v.injEq,Value.bool.injEq,Value.int.injEq,true_and])
 exact Dx ts
theorem qJ (ts:List Int) (hl:ts.length ≤ 1048576):PC Tryz.prog 89 [sl cI ts] (fun r => r = bv (bG ts)):=by
 refine aD Tryz.func89 Tryz.ntmps89 ?_
 repeat' (first|(apply aF;(apply aA (k := 115);rfl;(apply Dn <;> (assumption));exact Pur.pf;rfl))|refine aC ?_|(refine b9 ?_ ?_ <;> intro hg hq <;> try (exfalso;omega))|refine c7 ?_|fail)
 all_goals (refine ⟨?_,rfl⟩; simp only [aN,AV.v.injEq,Value.bool.injEq,Value.int.injEq,true_and])
 all_goals (unfold bG;grind)
theorem EY (p:Prg) (hl:p.types.length ≤ 1048576) (hs:aM p.body ≤ 100000000):PC Tryz.prog 45 [cA p] (fun r => r = bv (bR p)):=by
 rw [← Ci]
 cases ht : bG p.types
 ·refine aD Tryz.func45 Tryz.ntmps45 ?_
  repeat' (first|(apply aF;(apply aA (k := 89);rfl;(apply qJ <;> (assumption));exact Pur.pf;rfl))|refine aC ?_|refine c7 ?_|fail)
  all_goals (refine ⟨?_,rfl⟩; simp only [aN,AV.v.injEq,Value.bool.injEq,Value.int.injEq,true_and])
  all_goals grind
 ·refine aD Tryz.func45 Tryz.ntmps45 ?_
  repeat' (first|(apply aF;(first|(apply aA (k := 89);rfl;(apply qJ <;> (assumption));exact Pur.pf;rfl)|(apply qC;rfl;rfl;rfl;rfl;(rfl);(apply Cn <;> (first|assumption|omega));rfl;rfl)))|refine aC ?_|refine c7 ?_|fail)
  all_goals (refine ⟨?_,rfl⟩; simp only [aN,AV.v.injEq,Value.bool.injEq,Value.int.injEq,true_and])
  all_goals grind
theorem oQ {l:List AL.Stmt}{pts:List Pnt}{m:Nat}{x0 x1:Operand}{i0:Nat}(ha0:ev (lk tsl) x0 = some (sl aR l)) (ha1:ev (lk tsl) x1 = some (.own i0 0 m 5)) (hH0:aO hsl i0 = some (flat bK pts)) (hmc:MC Tryz.prog 94 [sl aR l,.own 0 0 m 5] [(0,some (flat bK pts))] 1 (fun _:Unit => True) (fun _ => .own 1 0 (m + cF l) 5) (fun _ => [(1,some (flat bK (pts ++ fX pts.length l)))])) (hM:Nat.ble (nidl + 1) aT = true) (hN:Nat.blt d N = true){md':Md}[hmd:MdA md (jU [x0,x1] ++ [.inr i0]) (List.map Sum.inr (List.map Prod.fst ([(nidl,some (flat bK (pts ++ fX pts.length l))),(i0,none)]:List (Nat × Option (List AV)))) ++ [.inl d]) md'] (kk:RW Tryz.prog N all Q md' rest ⟨(d,.own nidl 0 (m + cF l) 5) :: tsl,nK hsl [(nidl,some (flat bK (pts ++ fX pts.length l))),(i0,none)],nidl + 1,z0⟩):RW Tryz.prog N all Q md (⟨some d,.call ⟨.value (.func 94),#[x0,x1],tys⟩,ty,pos,af,none⟩ :: rest) ⟨tsl,hsl,nidl,z0⟩:=by
 exact bY (l := [x0,x1]) [i0] 2 [(nidl,some (flat bK (pts ++ fX pts.length l))),(i0,none)] hmc (avs := [sl aR l,.own i0 0 m 5]) (by simp only [evL,ha0,ha1]) rfl hM hN (md' := md') (hmd := hmd) kk
theorem yC (mm:Nat) (hmm:mm ≤ 1048576) (pointsOf_ih:∀ l pts m,aM l < mm → m = pts.length → m + cF l ≤ 13000000 → MC Tryz.prog 94 [sl aR l,.own 0 0 m 5] [(0,some (flat bK pts))] 1 (fun _:Unit => True) (fun _ => .own 1 0 (m + cF l) 5) (fun _ => [(1,some (flat bK (pts ++ fX pts.length l)))])) (l:List AL.Stmt) (pts:List Pnt) (m:Nat) (hs:aM l ≤ mm) (hm:m = pts.length) (hb:m + cF l ≤ 13000000):MC Tryz.prog 94 [sl aR l,.own 0 0 m 5] [(0,some (flat bK pts))] 1 (fun _:Unit => True) (fun _ => .own 1 0 (m + cF l) 5) (fun _ => [(1,some (flat bK (pts ++ fX pts.length l)))]):=by
 have hlen := dX l
 subst hm
 refine cS Tryz.func94 Tryz.ntmps94 ?_
 repeat' (first|refine aC ?_|fail)
 refine AW.le ?_ (Le.mv (d := 1) (i := 0) (cs := flat bK pts) rfl rfl (by decide))
 refine aH (σ := Nat × List Pnt × Nat) [9,10] [] (fun k => [(11,iv (k.1 : Int)),(1,.own 1 0 k.2.2 5)]) (fun k => [(1,some (flat bK k.2.1))]) (fun k => k.1 ≤ l.length ∧ k.2.1 = pts ++ fX pts.length (l.take k.1) ∧ k.2.2 = k.2.1.length ∧ k.2.2 = pts.length + cF (l.take k.1)) (fun k => l.length - k.1) (0,pts,pts.length) ⟨by omega,by simp [fX],rfl,by simp [cF]⟩ ?_
 rintro ⟨k,xs,m1⟩ ⟨hk,hxs,hm1,hm2⟩
 dsimp only at hk hxs hm1 hm2 ⊢
 have hck := eZ l k
 have hct := iA l[k]!
 have hnt := zS l k
 have n9 := F4 l[k]!
 have n10 := AR l[k]!
 have n1 := Gb l[k]!
 repeat' (first|(apply aF;first|(apply aL (t := _);rfl;rfl;rfl;(first|exact (rfl:_=some [_])|exact (rfl:_=some [_,_])|exact (rfl:_=some [_,_,_,_,_]));rfl;rfl)|(apply oQ;rfl;rfl;(rfl);(apply pointsOf_ih <;> (first|omega|(simp only [jY] <;> omega)));rfl;rfl))|refine aC ?_|(refine aJ ?_ ?_ <;> intro hc hq <;> try (exfalso;omega))|fail)
 ·(refine bC (k + 1, _, _) (Le.renA [(1, 8)]) ?_ ?_)
  ·dsimp only
   rw [tO hm1,vG hm1,uT (by rw [bD,hm1]),vT (by rw [bD,hm1]),fD l _ k (by omega),eK l k (by omega),gK,if_pos hq,n9 hq]
   refine ⟨by omega,?_,by simp [bD]; omega,by omega⟩
   have e1 : xs.length = pts.length + cF (l.take k) := by omega
   rw [← List.append_assoc pts,← hxs,← e1]
   simp only [List.append_assoc,List.length_append,List.length_cons,List.length_nil,bD,hm1,Nat.zero_add]
   clear pointsOf_ih hxs hck hnt n9 n10 n1
   grind
  ·dsimp only;omega
 ·(refine bC (k + 1, _, _) (Le.renA [(1, 8)]) ?_ ?_)
  ·dsimp only
   rw [zO hm1,Ba hm1,fD l _ k (by omega),eK l k (by omega),gK,if_neg (by omega),if_pos hq,n10 hq]
   refine ⟨by omega,?_,by simp [bD]; omega,by omega⟩
   have e1 : xs.length = pts.length + cF (l.take k) := by omega
   rw [← List.append_assoc pts,← hxs,← e1]
   simp only [List.append_assoc,List.length_append,List.length_cons,List.length_nil,bD,hm1,Nat.zero_add]
   clear pointsOf_ih hxs hck hnt n9 n10 n1
   grind
  ·dsimp only;omega
 ·(refine bC (k + 1, _, _) (Le.renA [(1, 5)]) ?_ ?_)
  ·dsimp only
   rw [fD l _ k (by omega),eK l k (by omega),gK,if_neg ‹¬l[k]!.op = 9›,if_neg hq,n1 ‹¬l[k]!.op = 9› hq]
   refine ⟨by omega,?_,by simp [bD]; omega,by omega⟩
   have e1 : xs.length = pts.length + cF (l.take k) := by omega
   rw [← List.append_assoc pts,← hxs,← e1,hm1]
  ·dsimp only;omega
 ·refine aI rfl ?_
  have e2 : l.take k = l := List.take_of_length_le (by omega)
  rw [e2] at hxs hm2
  refine eI () trivial ?_ ⟨sE ?_,trivial⟩
  ·simp only [aN]; rw [hm2]
  ·rw [hxs]
theorem zX (l:List AL.Stmt) (pts:List Pnt) (m:Nat) (hs:aM l ≤ 1048576) (hm:m = pts.length) (hb:m + cF l ≤ 13000000):MC Tryz.prog 94 [sl aR l,.own 0 0 m 5] [(0,some (flat bK pts))] 1 (fun _:Unit => True) (fun _ => .own 1 0 (m + cF l) 5) (fun _ => [(1,some (flat bK (pts ++ fX pts.length l)))]):=by
 have h : ∀ (mm : Nat), mm ≤ 1048576 → ∀ l pts m, aM l ≤ mm → m = pts.length → m + cF l ≤ 13000000 → MC Tryz.prog 94 [sl aR l, .own 0 0 m 5] [(0, some (flat bK pts))] 1 (fun _ : Unit => True) (fun _ => .own 1 0 (m + cF l) 5) (fun _ => [(1, some (flat bK (pts ++ fX pts.length l)))]) := by
  intro mm
  induction mm using Nat.strongRecOn with
  | ind mm ih =>
   intro h0 l pts m h1 h2 h3
   exact yC mm h0 (fun l' pts' m' g1 g2 g3 => ih _ g1 (by omega) l' pts' m' (Nat.le_refl _) g2 g3) l pts m h1 h2 h3
 exact h _ hs l pts m (Nat.le_refl _) hm hb
theorem vE {l:List AL.Stmt}{x0 x1:Operand}(ha0:ev (lk tsl) x0 = some (sl aR l)) (ha1:ev (lk tsl) x1 = some (.v (.slice none 0 0))) (hmc:MC Tryz.prog 94 [sl aR l,.v (.slice none 0 0)] [] 0 (fun _:Unit => True) (fun _ => .own 0 0 (cF l) 5) (fun _ => [(0,some (flat bK (fX 0 l)))])) (hM:Nat.ble (nidl + 1) aT = true) (hN:Nat.blt d N = true){md':Md}[hmd:MdA md (jU [x0,x1] ++ []) (List.map Sum.inr (List.map Prod.fst ([(nidl,some (flat bK (fX 0 l)))]:List (Nat × Option (List AV)))) ++ [.inl d]) md'] (kk:RW Tryz.prog N all Q md' rest ⟨(d,.own nidl 0 (cF l) 5) :: tsl,nK hsl [(nidl,some (flat bK (fX 0 l)))],nidl + 1,z0⟩):RW Tryz.prog N all Q md (⟨some d,.call ⟨.value (.func 94),#[x0,x1],tys⟩,ty,pos,af,none⟩ :: rest) ⟨tsl,hsl,nidl,z0⟩:=by
 exact bY (l := [x0,x1]) [] 1 [(nidl,some (flat bK (fX 0 l)))] hmc (avs := [sl aR l,.v (.slice none 0 0)]) (by simp only [evL,ha0,ha1]) rfl hM hN (md' := md') (hmd := hmd) kk
theorem wM (l:List AL.Stmt) (hs:aM l ≤ 1048576):MC Tryz.prog 94 [sl aR l,.v (.slice none 0 0)] [] 0 (fun _:Unit => True) (fun _ => .own 0 0 (cF l) 5) (fun _ => [(0,some (flat bK (fX 0 l)))]):=by
 have hlen := dX l
 have hn2 := kR l
 refine cS Tryz.func94 Tryz.ntmps94 ?_
 repeat' (first|refine aC ?_|fail)
 refine AW.le ?_ (Le.nilOwn (d := 1) 5 rfl (by decide))
 refine aH (σ := Nat × List Pnt × Nat) [9,10] [] (fun k => [(11,iv (k.1 : Int)),(1,.own 0 0 k.2.2 5)]) (fun k => [(0,some (flat bK k.2.1))]) (fun k => k.1 ≤ l.length ∧ k.2.1 = fX 0 (l.take k.1) ∧ k.2.2 = k.2.1.length ∧ k.2.2 = cF (l.take k.1)) (fun k => l.length - k.1) (0,[],0) ⟨by omega,by simp [fX],rfl,by simp [cF]⟩ ?_
 rintro ⟨k,xs,m1⟩ ⟨hk,hxs,hm1,hm2⟩
 dsimp only at hk hxs hm1 hm2 ⊢
 have hck := eZ l k
 have hct := iA l[k]!
 have hnt := zS l k
 have n9 := F4 l[k]!
 have n10 := AR l[k]!
 have n1 := Gb l[k]!
 repeat' (first|(apply aF;first|(apply aL (t := _);rfl;rfl;rfl;(first|exact (rfl:_=some [_])|exact (rfl:_=some [_,_])|exact (rfl:_=some [_,_,_,_,_]));rfl;rfl)|(apply oQ;rfl;rfl;(rfl);(apply zX <;> (first|omega|(simp only [jY] <;> omega)));rfl;rfl))|refine aC ?_|(refine aJ ?_ ?_ <;> intro hc hq <;> try (exfalso;omega))|fail)
 ·(refine bC (k + 1, _, _) (Le.renA [(0, 7)]) ?_ ?_)
  ·dsimp only
   rw [tO hm1,vG hm1,uT (by rw [bD,hm1]),vT (by rw [bD,hm1]),fD l _ k (by omega),eK l k (by omega),gK,if_pos hq,n9 hq]
   refine ⟨by omega,?_,by simp [bD]; omega,by omega⟩
   have e1 : cF (l.take k) = xs.length := by omega
   rw [Nat.zero_add,e1]
   rw [← hxs]
   simp only [List.append_assoc,List.length_append,List.length_cons,List.length_nil,bD,hm1,Nat.zero_add]
   clear hxs hck hnt n9 n10 n1
   grind
  ·dsimp only;omega
 ·(refine bC (k + 1, _, _) (Le.renA [(0, 7)]) ?_ ?_)
  ·dsimp only
   rw [zO hm1,Ba hm1,fD l _ k (by omega),eK l k (by omega),gK,if_neg (by omega),if_pos hq,n10 hq]
   refine ⟨by omega,?_,by simp [bD]; omega,by omega⟩
   have e1 : cF (l.take k) = xs.length := by omega
   rw [Nat.zero_add,e1]
   rw [← hxs]
   simp only [List.append_assoc,List.length_append,List.length_cons,List.length_nil,bD,hm1,Nat.zero_add]
   clear hxs hck hnt n9 n10 n1
   grind
  ·dsimp only;omega
 ·(refine bC (k + 1, _, _) (Le.renA [(0, 4)]) ?_ ?_)
  ·dsimp only
   rw [fD l _ k (by omega),eK l k (by omega),gK,if_neg ‹¬l[k]!.op = 9›,if_neg hq,n1 ‹¬l[k]!.op = 9› hq]
   refine ⟨by omega,?_,by simp [bD]; omega,by omega⟩
   have e1 : cF (l.take k) = xs.length := by omega
   rw [Nat.zero_add,e1]
   rw [← hxs,hm1]
  ·dsimp only;omega
 ·refine aI rfl ?_
  have e2 : l.take k = l := List.take_of_length_le (by omega)
  rw [e2] at hxs hm2
  refine eI () trivial ?_ ⟨sE ?_,trivial⟩
  ·simp only [aN]; rw [hm2]
  ·rw [hxs]
theorem Fy (p:Prg) (hs:aM p.body ≤ 1048576):PC Tryz.prog 109 [cA p] (fun r => r = sl bK (aB p)):=by
 have hn := kR p.body
 refine aD Tryz.func109 Tryz.ntmps109 ?_
 repeat' (first|(apply aF;first|(apply aL (t := _);rfl;rfl;rfl;(exact (rfl:_=some [_,_,_,_,_]));rfl;rfl)|(apply vE;rfl;rfl;(apply wM <;> (assumption));rfl;rfl))|refine aC ?_|fail)
 (refine bF (Le.frzD (d := 2) (i := 3) rfl rfl) ?_; refine aI rfl ?_)
 refine ⟨?_,?_⟩
 ·simp only [aN,sl,aB,List.length_append,List.length_cons,List.length_nil,bD,Nat.zero_add]
 ·(exact a8 _ _)
theorem zE {l:List AL.Stmt}{pts:List Pnt}{m:Nat}{x0 x1:Operand}{i0:Nat}(ha0:ev (lk tsl) x0 = some (.own i0 0 m 5)) (ha1:ev (lk tsl) x1 = some (sl aR l)) (hH0:aO hsl i0 = some (flat bK pts)) (hmc:MC Tryz.prog 74 [.own 0 0 m 5,sl aR l] [(0,some (flat bK pts))] 1 (fun _:Unit => True) (fun _ => .own 1 0 (m + cF l) 5) (fun _ => [(1,some (flat bK (pts ++ fX pts.length l)))])) (hM:Nat.ble (nidl + 1) aT = true) (hN:Nat.blt d N = true){md':Md}[hmd:MdA md (jU [x0,x1] ++ [.inr i0]) (List.map Sum.inr (List.map Prod.fst ([(nidl,some (flat bK (pts ++ fX pts.length l))),(i0,none)]:List (Nat × Option (List AV)))) ++ [.inl d]) md'] (kk:RW Tryz.prog N all Q md' rest ⟨(d,.own nidl 0 (m + cF l) 5) :: tsl,nK hsl [(nidl,some (flat bK (pts ++ fX pts.length l))),(i0,none)],nidl + 1,z0⟩):RW Tryz.prog N all Q md (⟨some d,.call ⟨.value (.func 74),#[x0,x1],tys⟩,ty,pos,af,none⟩ :: rest) ⟨tsl,hsl,nidl,z0⟩:=by
 exact bY (l := [x0,x1]) [i0] 2 [(nidl,some (flat bK (pts ++ fX pts.length l))),(i0,none)] hmc (avs := [.own i0 0 m 5,sl aR l]) (by simp only [evL,ha0,ha1]) rfl hM hN (md' := md') (hmd := hmd) kk
theorem Fh (mm:Nat) (hmm:mm ≤ 1048576) (l2Add_ih:∀ l pts m,aM l < mm → m = pts.length → m + cF l ≤ 13000000 → MC Tryz.prog 74 [.own 0 0 m 5,sl aR l] [(0,some (flat bK pts))] 1 (fun _:Unit => True) (fun _ => .own 1 0 (m + cF l) 5) (fun _ => [(1,some (flat bK (pts ++ fX pts.length l)))])) (l:List AL.Stmt) (pts:List Pnt) (m:Nat) (hs:aM l ≤ mm) (hm:m = pts.length) (hb:m + cF l ≤ 13000000):MC Tryz.prog 74 [.own 0 0 m 5,sl aR l] [(0,some (flat bK pts))] 1 (fun _:Unit => True) (fun _ => .own 1 0 (m + cF l) 5) (fun _ => [(1,some (flat bK (pts ++ fX pts.length l)))]):=by
 have hlen := dX l
 subst hm
 refine cS Tryz.func74 Tryz.ntmps74 ?_
 repeat' (first|refine aC ?_|fail)
 refine AW.le ?_ (Le.mv (d := 0) (i := 0) (cs := flat bK pts) rfl rfl (by decide))
 refine aH (σ := Nat × List Pnt × Nat) [1] [] (fun k => [(5,iv (k.1 : Int)),(0,.own 1 0 k.2.2 5)]) (fun k => [(1,some (flat bK k.2.1))]) (fun k => k.1 ≤ l.length ∧ k.2.1 = pts ++ fX pts.length (l.take k.1) ∧ k.2.2 = k.2.1.length ∧ k.2.2 = pts.length + cF (l.take k.1)) (fun k => l.length - k.1) (0,pts,pts.length) ⟨by omega,by simp [fX],rfl,by simp [cF]⟩ ?_
 rintro ⟨k,xs,m1⟩ ⟨hk,hxs,hm1,hm2⟩
 dsimp only at hk hxs hm1 hm2 ⊢
 have hck := eZ l k
 have hct := iA l[k]!
 have hnt := zS l k
 have n9 := F4 l[k]!
 have n10 := AR l[k]!
 have n1 := Gb l[k]!
 repeat' (first|(apply aF;first|(apply aL (t := _);rfl;rfl;rfl;(first|exact (rfl:_=some [_])|exact (rfl:_=some [_,_])|exact (rfl:_=some [_,_,_,_,_]));rfl;rfl)|(apply zE;rfl;rfl;(rfl);(apply l2Add_ih <;> (first|omega|(simp only [jY] <;> omega)));rfl;rfl))|refine aC ?_|(refine aJ ?_ ?_ <;> intro hc hq <;> try (exfalso;omega))|fail)
 ·(refine bC (k + 1, _, _) (Le.renA [(1, 8)]) ?_ ?_)
  ·dsimp only
   rw [uT (by rw [bD,hm1]),vT (by rw [bD,hm1]),tO hm1,vG hm1,fD l _ k (by omega),eK l k (by omega),gK,if_pos hq,n9 hq]
   refine ⟨by omega,?_,by simp [bD]; omega,by omega⟩
   have e1 : xs.length = pts.length + cF (l.take k) := by omega
   rw [← List.append_assoc pts,← hxs,← e1]
   simp only [List.append_assoc,List.length_append,List.length_cons,List.length_nil,bD,hm1,Nat.zero_add]
   clear l2Add_ih hxs hck hnt n9 n10 n1
   grind
  ·dsimp only;omega
 ·(refine bC (k + 1, _, _) (Le.renA [(1, 8)]) ?_ ?_)
  ·dsimp only
   rw [zO hm1,Ba hm1,fD l _ k (by omega),eK l k (by omega),gK,if_neg (by omega),if_pos hq,n10 hq]
   refine ⟨by omega,?_,by simp [bD]; omega,by omega⟩
   have e1 : xs.length = pts.length + cF (l.take k) := by omega
   rw [← List.append_assoc pts,← hxs,← e1]
   simp only [List.append_assoc,List.length_append,List.length_cons,List.length_nil,bD,hm1,Nat.zero_add]
   clear l2Add_ih hxs hck hnt n9 n10 n1
   grind
  ·dsimp only;omega
 ·(refine bC (k + 1, _, _) (Le.renA [(1, 5)]) ?_ ?_)
  ·dsimp only
   rw [fD l _ k (by omega),eK l k (by omega),gK,if_neg ‹¬l[k]!.op = 9›,if_neg hq,n1 ‹¬l[k]!.op = 9› hq]
   refine ⟨by omega,?_,by simp [bD]; omega,by omega⟩
   have e1 : xs.length = pts.length + cF (l.take k) := by omega
   rw [← List.append_assoc pts,← hxs,← e1,hm1]
  ·dsimp only;omega
 ·refine aI rfl ?_
  have e2 : l.take k = l := List.take_of_length_le (by omega)
  rw [e2] at hxs hm2
  refine eI () trivial ?_ ⟨sE ?_,trivial⟩
  ·simp only [aN]; rw [hm2]
  ·rw [hxs]
theorem Is (l:List AL.Stmt) (pts:List Pnt) (m:Nat) (hs:aM l ≤ 1048576) (hm:m = pts.length) (hb:m + cF l ≤ 13000000):MC Tryz.prog 74 [.own 0 0 m 5,sl aR l] [(0,some (flat bK pts))] 1 (fun _:Unit => True) (fun _ => .own 1 0 (m + cF l) 5) (fun _ => [(1,some (flat bK (pts ++ fX pts.length l)))]):=by
 have h : ∀ (mm : Nat), mm ≤ 1048576 → ∀ l pts m, aM l ≤ mm → m = pts.length → m + cF l ≤ 13000000 → MC Tryz.prog 74 [.own 0 0 m 5, sl aR l] [(0, some (flat bK pts))] 1 (fun _ : Unit => True) (fun _ => .own 1 0 (m + cF l) 5) (fun _ => [(1, some (flat bK (pts ++ fX pts.length l)))]) := by
  intro mm
  induction mm using Nat.strongRecOn with
  | ind mm ih =>
   intro h0 l pts m h1 h2 h3
   exact Fh mm h0 (fun l' pts' m' g1 g2 g3 => ih _ g1 (by omega) l' pts' m' (Nat.le_refl _) g2 g3) l pts m h1 h2 h3
 exact h _ hs l pts m (Nat.le_refl _) hm hb
theorem dJ (p:Prg) (hs:aM p.body ≤ 1048576):PC Tryz.prog 27 [cA p] (fun r => r = sl bK (aB p)):=by
 have hn := kR p.body
 have e0 : ([] : List AV) = flat bK [] := rfl
 refine aD Tryz.func27 Tryz.ntmps27 ?_
 repeat' (first|(apply aF;(apply zE;rfl;rfl;(exact CM rfl);(apply Is <;> (first|assumption|omega|(simp only [jY] <;> omega)));rfl;rfl))|refine aC ?_|fail)
 (refine bF (Le.frzD (d := 2) (i := 4) rfl rfl) ?_; refine aI rfl ?_)
 refine ⟨?_,(by (exact a8 _ _))⟩
 simp only [aN,sl,aB,List.length_append,List.length_cons,List.length_nil,bD,Nat.zero_add,List.nil_append]
theorem Bx (ts:List Int) (bd:List AL.Stmt) (pts:List Pnt) (v:Int) (h:0 ≤ v ∧ v < ts.length):PC Tryz.prog 201 [aG ts bd pts,iv v] (fun r => r = bv (JF ts[v.toNat]!)):=by
 refine aD Tryz.func201 Tryz.ntmps201 ?_
 repeat' (first|refine aC ?_|(refine b9 ?_ ?_ <;> intro hg hq <;> try (exfalso;omega))|refine c7 ?_|fail)
 all_goals (refine ⟨?_,rfl⟩; simp only [aN,AV.v.injEq,Value.bool.injEq,Value.int.injEq,true_and])
 all_goals grind [JF]
theorem KQ (ts:List Int) (bd:List AL.Stmt) (pts:List Pnt) (x:Pnt) (v:Int) (h:0 ≤ v ∧ v < ts.length):PC Tryz.prog 188 [aG ts bd pts,nB x,iv v] (fun r => r = iv (aV ts x v)):=by
 refine aD Tryz.func188 Tryz.ntmps188 ?_
 repeat' (first|(apply aF;(apply aA (k := 201);rfl;(apply Bx <;> (assumption));exact Pur.pf;rfl))|refine aC ?_|(refine aJ ?_ ?_ <;> intro hc hq <;> try (exfalso;omega))|(refine b9 ?_ ?_ <;> intro hg hq <;> try (exfalso;omega))|refine c7 ?_|fail)
 all_goals (refine ⟨?_,rfl⟩; simp only [aN,AV.v.injEq,Value.bool.injEq,Value.int.injEq,true_and])
 all_goals grind [JF,aV]
theorem tL (x:Pnt):PC Tryz.prog 183 [nB x] (fun r => r = iv (aQ x)):=by
 refine aD Tryz.func183 Tryz.ntmps183 ?_
 repeat' (first|refine aC ?_|(refine aJ ?_ ?_ <;> intro hc hq <;> try (exfalso;omega))|refine c7 ?_|fail)
 all_goals (refine ⟨?_,rfl⟩; simp only [aN,AV.v.injEq,Value.bool.injEq,Value.int.injEq,true_and])
 all_goals grind [aQ]
theorem kS (x:Pnt):PC Tryz.prog 184 [nB x] (fun r => r = bv (bJ x)):=by
 refine aD Tryz.func184 Tryz.ntmps184 ?_
 repeat' (first|refine aC ?_|(refine b9 ?_ ?_ <;> intro hg hq <;> try (exfalso;omega))|refine c7 ?_|fail)
 all_goals (refine ⟨?_,rfl⟩; simp only [aN,AV.v.injEq,Value.bool.injEq,Value.int.injEq,true_and])
 all_goals grind [bJ]
theorem mP (x:Pnt) (h:aQ x < 62):PC Tryz.prog 178 [nB x] (fun r => r = iv (gG x:Nat)):=by
 refine aD Tryz.func178 Tryz.ntmps178 ?_
 repeat' (first|(apply aF;first|(apply iL;rfl;rfl;infer_instance;omega;rfl;(case' kk => intro hsm))|(apply aA (k := 183);rfl;(apply tL);exact Pur.pf;rfl))|refine aC ?_|(refine aJ ?_ ?_ <;> intro hc hq <;> try (exfalso;omega))|refine c7 ?_|fail)
 all_goals (refine ⟨?_,rfl⟩; simp only [aN,AV.v.injEq,Value.bool.injEq,Value.int.injEq,true_and])
 all_goals (unfold gG)
 ·rw [if_pos (by omega)]
 ·rw [if_neg (by omega)]; rfl
theorem KV (ts:List Int) (bd:List AL.Stmt) (pts:List Pnt) (h:ts.length ≤ 6):PC Tryz.prog 176 [aG ts bd pts] (fun r => r = iv ((2 ^ ts.length - 1:Nat):Int)):=by
 have h1 : 2 ^ ts.length ≤ 2 ^ 6 := Nat.pow_le_pow_right (by decide) h
 have h2 : 0 < 2 ^ ts.length := Nat.pow_pos (by decide)
 have h3 : 2 ^ (ts.length : Int).toNat ≤ 2 ^ 6 := h1
 have h4 : 2 ^ (ts.length : Int).toNat = 2 ^ ts.length := rfl
 refine aD Tryz.func176 Tryz.ntmps176 ?_
 repeat' (first|(apply aF;(apply iL;rfl;rfl;infer_instance;omega;rfl;(case' kk => intro hsm)))|refine aC ?_|refine c7 ?_|fail)
 all_goals (refine ⟨?_,rfl⟩; simp only [aN,AV.v.injEq,Value.bool.injEq,Value.int.injEq,true_and])
 omega
def DY (xs : List Int) (v : Int) : Int := match xs.findIdx? (fun t => decide (t = v)) with | some i => i | none => -1
theorem GF (xs:List Int) (v:Int) (hl:xs.length ≤ 1048576):PC Tryz.prog 99 [sl cI xs,iv v] (fun r => r = iv (DY xs v)):=by
 refine aD Tryz.func99 Tryz.ntmps99 ?_
 repeat' (first|refine aC ?_|fail)
 refine aH (σ := Nat) [0,1,7] [] (fun k => [(8,iv (k : Int))]) (fun k => []) (fun k => k ≤ xs.length ∧ ∀ i,i < k → xs[i]! ≠ v) (fun k => xs.length - k) (0) ⟨by omega,by omega⟩ ?_
 intro k ⟨hk,hall⟩
 repeat' (first|refine aC ?_|(refine aJ ?_ ?_ <;> intro hc hq <;> try (exfalso;omega))|refine c7 ?_|fail)
 ·(refine ⟨?_, rfl⟩; simp only [aN, AV.v.injEq, Value.bool.injEq, Value.int.injEq, true_and])
  have hlt : k < xs.length := by omega
  have : xs.findIdx? (fun t => decide (t = v)) = some k := by
   rw [List.findIdx?_eq_some_iff_getElem]
   refine ⟨hlt,?_,fun j hj => ?_⟩
   ·rw [← aW xs k hlt]; grind
   ·have := hall j hj;rw [aW xs j (by omega)] at this;simpa using this
  simp only [DY,this]
 ·(refine bC (k + 1) (Le.renA []) ?_ ?_)
  ·grind
  ·omega
 ·(refine ⟨?_, rfl⟩; simp only [aN, AV.v.injEq, Value.bool.injEq, Value.int.injEq, true_and])
  have : xs.findIdx? (fun t => decide (t = v)) = none := by
   rw [List.findIdx?_eq_none_iff]
   intro x hx
   obtain ⟨i,hi,rfl⟩ := List.getElem_of_mem hx
   have := hall i (by omega);rw [aW xs i hi] at this;simpa using this
  simp only [DY,this]
theorem G3 (xs:List Int) (v:Int):decide (0 ≤ DY xs v) = decide (v ∈ xs):=by
 unfold DY
 split
 ·rename_i i h
  obtain ⟨h1,h2,_⟩ := List.findIdx?_eq_some_iff_getElem.1 h
  simp only [decide_eq_true_eq] at h2
  have : v ∈ xs := by rw [← h2]; exact List.getElem_mem h1
  simp [this]
 ·rename_i h
  rw [List.findIdx?_eq_none_iff] at h
  have : v ∉ xs := fun hm => by have := h v hm;simp at this
  simp [this]
theorem A8 (xs:List Int) (v:Int) (hl:xs.length ≤ 1048576):PC Tryz.prog 57 [sl cI xs,iv v] (fun r => r = bv (decide (v ∈ xs))):=by
 refine aD Tryz.func57 Tryz.ntmps57 ?_
 repeat' (first|(apply aF;(apply aA (k := 99);rfl;(apply GF <;> (assumption));exact Pur.pf;rfl))|refine aC ?_|refine c7 ?_|fail)
 (refine ⟨?_,rfl⟩; simp only [aN,AV.v.injEq,Value.bool.injEq,Value.int.injEq,true_and])
 exact G3 xs v
theorem BU (ts:List Int) (bd:List AL.Stmt) (pts:List Pnt) (x:Pnt) (us:List Int) (h:ts.length ≤ 6) (hu:us.length ≤ 1000):PC Tryz.prog 157 [aG ts bd pts,nB x,sl cI us] (fun r => r = iv (wS ts x us:Nat)):=by
 refine aD Tryz.func157 Tryz.ntmps157 ?_
 repeat' (first|refine aC ?_|fail)
 refine aH (σ := Nat × Nat) [0,2,4,14] [0] (fun k => [(15,iv (k.1 : Int)),(7,iv (k.2 : Int))]) (fun k => []) (fun k => k.1 ≤ ts.length ∧ k.2 = dY (fun v => decide (aV ts x v ∈ us)) k.1) (fun k => ts.length - k.1) (0,0) ⟨by omega,rfl⟩ ?_
 rintro ⟨k,A⟩ ⟨hk,hA⟩
 dsimp only at hk hA ⊢
 have hsm : Sm A := hA ▸ c6 (by omega)
 repeat' (first|(apply aF;first|(apply iL;rfl;rfl;infer_instance;omega;rfl;(case' kk => intro hsm))|(first|(apply aA (k := 57);rfl;(apply A8 <;> (omega));exact Pur.pf;rfl)|(apply aA (k := 188);rfl;(apply KQ <;> (omega));exact Pur.pf;rfl)))|refine aC ?_|(refine aJ ?_ ?_ <;> intro hc hq <;> try (exfalso;omega))|refine c7 ?_|fail)
 ·(refine bC (k + 1, _) (Le.renA [(0, 0)]) ?_ ?_)
  ·dsimp only
   rw [hA]
   exact ⟨by omega,oS _ _ (by simpa using hq)⟩
  ·dsimp only;omega
 ·(refine bC (k + 1, _) (Le.renA [(0, 0)]) ?_ ?_)
  ·dsimp only
   rw [hA]
   exact ⟨by omega,kL _ _ (by simpa using hq)⟩
  ·dsimp only;omega
 ·(refine ⟨?_, rfl⟩; simp only [aN, AV.v.injEq, Value.bool.injEq, Value.int.injEq, true_and])
  rw [hA,show k = ts.length by omega]; rfl
theorem uK (ts:List Int) (bd:List AL.Stmt) (pts:List Pnt) (x:Pnt) (h:ts.length ≤ 6):PC Tryz.prog 116 [aG ts bd pts,nB x] (fun r => r = iv (wS ts x [1,2,3]:Nat)):=by
 refine aD Tryz.func116 Tryz.ntmps116 ?_
 repeat' (first|(apply aF;first|(apply aL (t := _);rfl;rfl;rfl;(exact (rfl:_=some [_,_,_]));rfl;rfl)|(apply aA (k := 157);rfl;(apply BU (us := [1,2,3]) <;> (first|assumption|decide));exact Pur.pf;rfl))|refine aC ?_|refine c7 ?_|fail)
 (refine ⟨?_,rfl⟩; simp only [aN,AV.v.injEq,Value.bool.injEq,Value.int.injEq,true_and])
theorem pB (ts:List Int) (bd:List AL.Stmt) (pts:List Pnt) (x:Pnt) (h:ts.length ≤ 6):PC Tryz.prog 177 [aG ts bd pts,nB x] (fun r => r = iv (wS ts x [2]:Nat)):=by
 refine aD Tryz.func177 Tryz.ntmps177 ?_
 repeat' (first|(apply aF;first|(apply aL (t := _);rfl;rfl;rfl;exact (rfl:_=some [_]);rfl;rfl)|(apply aA (k := 157);rfl;(apply BU (us := [2]) <;> (first|assumption|decide));exact Pur.pf;rfl))|refine aC ?_|refine c7 ?_|fail)
 (refine ⟨?_,rfl⟩; simp only [aN,AV.v.injEq,Value.bool.injEq,Value.int.injEq,true_and])
theorem y9 (ts:List Int) (bd:List AL.Stmt) (pts:List Pnt) (i:Int) (A:Nat) (h:WG ts pts) (hi:0 ≤ i ∧ i < pts.length) (hA:Sm A):PC Tryz.prog 142 [aG ts bd pts,iv i,iv (A:Int)] (fun r => r = iv (fW ts pts[i.toNat]! A:Nat)):=by
 have htl := h.tl
 have hst := (h.set i.toNat (by omega)).1
 have hs1 : Sm (wS ts pts[i.toNat]! [2]) := c6 (by omega)
 have hs2 : Sm (gG pts[i.toNat]!) := pK (by omega)
 refine aD Tryz.func142 Tryz.ntmps142 ?_
 repeat' (first|(apply aF;(first|(apply aA (k := 177);rfl;(apply pB <;> (assumption));exact Pur.pf;rfl)|(apply aA (k := 178);rfl;(apply mP <;> (omega));exact Pur.pf;rfl)))|refine aC ?_|refine cC ?_|refine c7 ?_|fail)
 (refine ⟨?_,rfl⟩; simp only [aN,AV.v.injEq,Value.bool.injEq,Value.int.injEq,true_and])
 rfl
theorem AA (ts:List Int) (bd:List AL.Stmt) (pts:List Pnt) (A:List Nat) (w:WG ts pts) (hA:oR ts pts A):PC Tryz.prog 141 [aG ts bd pts,iv 0,bv false,.clos (.func 142) [aG ts bd pts] []] (fun r => r = .imm pts.length (flat cN A)):=by
 have hpl := w.pl
 have hp0 := w.p0
 have htl := w.tl
 have fl := KB w
 refine aD Tryz.func141 Tryz.ntmps141 ?_
 repeat' (first|refine aC ?_|fail)
 refine aH (σ := List Nat × Bool) [0,2,3,9] [] (fun s => [(11,bv s.2)]) (fun s => [(0,some (flat cN s.1))]) (fun s => SG pts (KN ts pts) s.1 ∧ True ∧ (s.2 = false → jK mM (fun i A => fW ts pts[i]! A) pts s.1)) (fun s => 2 * eH (s.1.map (fun a => 2 ^ ts.length - a)) + s.2.toNat) (((List.replicate pts.length 0).set 0 0),true) ⟨by rw [Gn (by rw [aW _ _ (by simpa using hp0),List.getElem_replicate]) (by simpa using hp0)]; exact A1 fun i hi => ⟨Nat.pow_pos (by decide),fun v h => by simp at h⟩,trivial,fun h => by cases h⟩ ?_
 rintro ⟨s,b⟩ ⟨hS,hE,hC⟩
 dsimp only at hS hE hC ⊢
 repeat' (first|refine aC ?_|(refine aJ ?_ ?_ <;> intro hc hq <;> try (exfalso;omega))|fail)
 ·refine aH (σ := Nat × (List Nat × Bool)) [0, 2, 3, 9, 43, 44] [] (fun k => [(45, iv (k.1 : Int)), (11, bv k.2.2)]) (fun k => [(0, some (flat cN k.2.1))]) (fun k => k.1 ≤ pts.length ∧ k.2 = (List.range k.1).foldl (tN mM (fun i A => fW ts pts[i]! A) pts) (s, false) ∧ SG pts (KN ts pts) k.2.1 ∧ True) (fun k => pts.length - k.1) (0, (s, false)) ⟨by omega, rfl, hS, hE⟩ ?_
  rintro ⟨k,u,c⟩ ⟨hk,hf,hS2,hE2⟩
  dsimp only at hk hf hS2 hE2 ⊢
  have hsm : ∀ z,Sm u[z]! := p7 hS2 (fun i A h => h.1) htl
  have hul := hS2.1
  repeat' (first|(apply aF;(apply jA;rfl;rfl;infer_instance;rfl;(apply y9 <;> (first|assumption|omega|infer_instance));exact Pur.pf;rfl))|refine aC ?_|(refine aJ ?_ ?_ <;> intro hc hq <;> try (exfalso;omega))|fail)
  ·have hkn : k < pts.length := by omega
   have hv := pI w hkn (hS2.2 k hkn).1
   have hvs : Sm (fW ts pts[k]! u[k]!) := ⟨Nat.lt_of_lt_of_le hv (Nat.pow_le_pow_right (by decide) (by omega))⟩
   have hvs' : Sm (fW ts pts[(k : Int).toNat]! u[k]!) := hvs
   have hnl := w.nl k hkn
   refine aH (σ := Nat × (List Nat × Bool)) [0,2,3,9,14,43,44,45,58,59] [] (fun j => [(60,iv (j.1 : Int)),(11,bv j.2.2)]) (fun j => [(0,some (flat cN j.2.1))]) (fun j => j.1 ≤ pts[k]!.next.length ∧ j.2 = ((rU pts k).take j.1).foldl (jR mM (fW ts pts[k]! u[k]!)) (u,c) ∧ SG pts (KN ts pts) j.2.1 ∧ True) (fun j => pts[k]!.next.length - j.1) (0,(u,c)) ⟨by omega,rfl,hS2,hE2⟩ ?_
   rintro ⟨j,u2,c2⟩ ⟨hj,hf2,hS3,hE3⟩
   dsimp only at hj hf2 hS3 hE3 ⊢
   have hsm2 : ∀ z,Sm u2[z]! := p7 hS3 (fun i A h => h.1) htl
   have hul2 := hS3.1
   have hz : j < pts[k]!.next.length → 0 ≤ pts[k]!.next[j]! ∧ pts[k]!.next[j]! < pts.length := fun h => w.nx k hkn _ (aZ _ _ h)
   repeat' (first|refine aC ?_|(refine aJ ?_ ?_ <;> intro hc hq <;> try (exfalso;omega))|fail)
   ·have hzz := hz (by omega)
    have hed : cE pts k (pts[k]!.next[j]!).toNat := ⟨hkn,by rw [Int.toNat_of_nonneg hzz.1]; exact aZ _ _ (by omega)⟩
    have hne : mM u2[(pts[k]!.next[j]!).toNat]! (fW ts pts[k]! u[k]!) ≠ u2[(pts[k]!.next[j]!).toNat]! := fun h => hq (congrArg Int.ofNat h)
    (refine bC (j + 1,(_,true)) (Le.renA [(0,0)]) ?_ ?_)
    ·dsimp only
     refine ⟨by omega,?_,vC fl w (hS2.2 k hkn) hed hS3,trivial⟩
     rw [gM (by omega),← hf2,uW hne]; rfl
    ·dsimp only;omega
   ·have hzz := hz (by omega)
    have hne : mM u2[(pts[k]!.next[j]!).toNat]! (fW ts pts[k]! u[k]!) = u2[(pts[k]!.next[j]!).toNat]! := Int.ofNat.inj hq
    (refine bC (j + 1,(u2,c2)) (Le.renA [(0,0)]) ?_ ?_)
    ·dsimp only
     refine ⟨by omega,?_,hS3,hE3⟩
     rw [gM (by omega),← hf2,uN hne]
    ·dsimp only;omega
   ·(refine bC (k + 1, (u2, c2)) (Le.renA [(0, 0)]) ?_ ?_)
    ·dsimp only
     refine ⟨by omega,?_,hS3,hE3⟩
     rw [dC,← hf,hf2,List.take_of_length_le (by rw [jN]; omega)]; rfl
    ·dsimp only;omega
  ·have law := rJ w fl s false hS
   have hfull : (u, c) = uA mM (fun i A => fW ts pts[i]! A) pts (s, false) := by
    rw [hf,show k = pts.length by omega]; rfl
   rw [show uA (fun a s => mM a s) (fun i A => fW ts pts[i]! A) pts (s,false) = (u,c) from hfull.symm] at law
   (refine bC (u,c) (Le.renA [(0,0)]) ?_ ?_)
   ·dsimp only
    refine ⟨hS2,hE2,fun h => ?_⟩
    rcases law.2 with ⟨e1,e2⟩ | ⟨e1,_⟩
    ·cases e1;exact e2
    ·dsimp only at e1;rw [h] at e1;cases e1
   ·dsimp only
    have hb : b = true := by assumption
    subst hb
    rcases law.2 with ⟨e1,e2⟩ | ⟨e1,e2⟩
    ·cases e1;simp
    ·dsimp only at e1 e2;subst e1;omega
 ·have hb : b = false := by assumption
  refine bF (Le.frzD (d := 8) (i := 0) rfl rfl) ?_
  refine aI rfl ⟨?_,(by (exact a8 _ _))⟩
  simp only [aN]
  rw [CJ hA (Gc w hS (hC hb))]
theorem Bb (ts:List Int) (bd:List AL.Stmt) (pts:List Pnt) (A:List Nat) (w:WG ts pts) (hA:oW ts pts A):PC Tryz.prog 141 [aG ts bd pts,iv 0,bv true,.clos (.func 142) [aG ts bd pts] []] (fun r => r = .imm pts.length (flat cN A)):=by
 have hpl := w.pl
 have hp0 := w.p0
 have htl := w.tl
 have fl := KS w
 refine aD Tryz.func141 Tryz.ntmps141 ?_
 repeat' (first|refine aC ?_|fail)
 refine aH (σ := Nat × List Nat) [0,1,2,3,9,26] [] (fun k => [(27,iv (k.1 : Int))]) (fun k => [(0,some (flat cN k.2))]) (fun k => k.1 ≤ pts.length ∧ k.2 = List.replicate k.1 (2 ^ ts.length - 1) ++ List.replicate (pts.length - k.1) 0) (fun k => pts.length - k.1) (0,List.replicate pts.length 0) ⟨by omega,by simp⟩ ?_
 rintro ⟨k0,u0⟩ ⟨hk0,hu0⟩
 dsimp only at hk0 hu0 ⊢
 have hul0 : u0.length = pts.length := by rw [hu0]; simp;omega
 repeat' (first|(apply aF;(apply aA (k := 176);rfl;(apply KV <;> (assumption));exact Pur.pf;rfl))|refine aC ?_|(refine aJ ?_ ?_ <;> intro hc hq <;> try (exfalso;omega))|fail)
 ·(refine bC (k0 + 1, _) (Le.renA [(0, 0)]) ?_ ?_)
  ·dsimp only
   exact ⟨by omega,by rw [hu0]; exact Hk (by omega)⟩
  ·dsimp only;omega
 have hk1 : k0 = pts.length := by omega
 subst hk1
 rw [Nat.sub_self,List.replicate_zero,List.append_nil] at hu0
 refine aH (σ := List Nat × Bool) [0,2,3,9] [] (fun s => [(11,bv s.2)]) (fun s => [(0,some (flat cN s.1))]) (fun s => SG pts (Kg ts pts) s.1 ∧ s.1[0]! = 0 ∧ (s.2 = false → jK IT (fun i A => fW ts pts[i]! A) pts s.1)) (fun s => 2 * eH (s.1.map (fun a => a)) + s.2.toNat) ((u0.set 0 0),true) ⟨(EJ w hu0).1,(EJ w hu0).2,fun h => by cases h⟩ ?_
 rintro ⟨s,b⟩ ⟨hS,hE,hC⟩
 dsimp only at hS hE hC ⊢
 repeat' (first|refine aC ?_|(refine aJ ?_ ?_ <;> intro hc hq <;> try (exfalso;omega))|fail)
 ·refine aH (σ := Nat × (List Nat × Bool)) [0, 2, 3, 9, 43, 44] [] (fun k => [(45, iv (k.1 : Int)), (11, bv k.2.2)]) (fun k => [(0, some (flat cN k.2.1))]) (fun k => k.1 ≤ pts.length ∧ k.2 = (List.range k.1).foldl (tN IT (fun i A => fW ts pts[i]! A) pts) (s, false) ∧ SG pts (Kg ts pts) k.2.1 ∧ k.2.1[0]! = 0) (fun k => pts.length - k.1) (0, (s, false)) ⟨by omega, rfl, hS, hE⟩ ?_
  rintro ⟨k,u,c⟩ ⟨hk,hf,hS2,hE2⟩
  dsimp only at hk hf hS2 hE2 ⊢
  have hsm : ∀ z,Sm u[z]! := p7 hS2 (fun i A h => h.1) htl
  have hul := hS2.1
  repeat' (first|(apply aF;(apply jA;rfl;rfl;infer_instance;rfl;(apply y9 <;> (first|assumption|omega|infer_instance));exact Pur.pf;rfl))|refine aC ?_|(refine aJ ?_ ?_ <;> intro hc hq <;> try (exfalso;omega))|fail)
  ·have hkn : k < pts.length := by omega
   have hv := pI w hkn (hS2.2 k hkn).1
   have hvs : Sm (fW ts pts[k]! u[k]!) := ⟨Nat.lt_of_lt_of_le hv (Nat.pow_le_pow_right (by decide) (by omega))⟩
   have hvs' : Sm (fW ts pts[(k : Int).toNat]! u[k]!) := hvs
   have hnl := w.nl k hkn
   refine aH (σ := Nat × (List Nat × Bool)) [0,2,3,9,14,43,44,45,58,59] [] (fun j => [(60,iv (j.1 : Int)),(11,bv j.2.2)]) (fun j => [(0,some (flat cN j.2.1))]) (fun j => j.1 ≤ pts[k]!.next.length ∧ j.2 = ((rU pts k).take j.1).foldl (jR IT (fW ts pts[k]! u[k]!)) (u,c) ∧ SG pts (Kg ts pts) j.2.1 ∧ j.2.1[0]! = 0) (fun j => pts[k]!.next.length - j.1) (0,(u,c)) ⟨by omega,rfl,hS2,hE2⟩ ?_
   rintro ⟨j,u2,c2⟩ ⟨hj,hf2,hS3,hE3⟩
   dsimp only at hj hf2 hS3 hE3 ⊢
   have hsm2 : ∀ z,Sm u2[z]! := p7 hS3 (fun i A h => h.1) htl
   have hul2 := hS3.1
   have hz : j < pts[k]!.next.length → 0 ≤ pts[k]!.next[j]! ∧ pts[k]!.next[j]! < pts.length := fun h => w.nx k hkn _ (aZ _ _ h)
   repeat' (first|refine aC ?_|(refine aJ ?_ ?_ <;> intro hc hq <;> try (exfalso;omega))|fail)
   ·have hzz := hz (by omega)
    have hed : cE pts k (pts[k]!.next[j]!).toNat := ⟨hkn,by rw [Int.toNat_of_nonneg hzz.1]; exact aZ _ _ (by omega)⟩
    have hne : IT u2[(pts[k]!.next[j]!).toNat]! (fW ts pts[k]! u[k]!) ≠ u2[(pts[k]!.next[j]!).toNat]! := fun h => hq (congrArg Int.ofNat h)
    (refine bC (j + 1,(_,true)) (Le.renA [(0,0)]) ?_ ?_)
    ·dsimp only
     refine ⟨by omega,?_,vC fl w (hS2.2 k hkn) hed hS3,(by rw [cM _ _ _ _ (by rw [hS3.1]; exact cQ w hed)]; split <;> first|exact hE3|(rename_i q;rw [← q,hE3]; exact Nat.zero_and _))⟩
     rw [gM (by omega),← hf2,uW hne]; rfl
    ·dsimp only;omega
   ·have hzz := hz (by omega)
    have hne : IT u2[(pts[k]!.next[j]!).toNat]! (fW ts pts[k]! u[k]!) = u2[(pts[k]!.next[j]!).toNat]! := Int.ofNat.inj hq
    (refine bC (j + 1,(u2,c2)) (Le.renA [(0,0)]) ?_ ?_)
    ·dsimp only
     refine ⟨by omega,?_,hS3,hE3⟩
     rw [gM (by omega),← hf2,uN hne]
    ·dsimp only;omega
   ·(refine bC (k + 1, (u2, c2)) (Le.renA [(0, 0)]) ?_ ?_)
    ·dsimp only
     refine ⟨by omega,?_,hS3,hE3⟩
     rw [dC,← hf,hf2,List.take_of_length_le (by rw [jN]; omega)]; rfl
    ·dsimp only;omega
  ·have law := rJ w fl s false hS
   have hfull : (u, c) = uA IT (fun i A => fW ts pts[i]! A) pts (s, false) := by
    rw [hf,show k = pts.length by omega]; rfl
   rw [show uA (fun a s => IT a s) (fun i A => fW ts pts[i]! A) pts (s,false) = (u,c) from hfull.symm] at law
   (refine bC (u,c) (Le.renA [(0,0)]) ?_ ?_)
   ·dsimp only
    refine ⟨hS2,hE2,fun h => ?_⟩
    rcases law.2 with ⟨e1,e2⟩ | ⟨e1,_⟩
    ·cases e1;exact e2
    ·dsimp only at e1;rw [h] at e1;cases e1
   ·dsimp only
    have hb : b = true := by assumption
    subst hb
    rcases law.2 with ⟨e1,e2⟩ | ⟨e1,e2⟩
    ·cases e1;simp
    ·dsimp only at e1 e2;subst e1;omega
 ·have hb : b = false := by assumption
  refine bF (Le.frzD (d := 8) (i := 0) rfl rfl) ?_
  refine aI rfl ⟨?_,(by (exact a8 _ _))⟩
  simp only [aN]
  rw [C7 hA (EC w hS hE (hC hb))]
theorem Gr (ts:List Int) (bd:List AL.Stmt) (pts:List Pnt) (A:List Nat) (w:WG ts pts) (hA:oW ts pts A):PC Tryz.prog 101 [aG ts bd pts,iv 0] (fun r => r = .imm pts.length (flat cN A)):=by
 refine aD Tryz.func101 Tryz.ntmps101 ?_
 repeat' (first|(apply aF;(apply aA (k := 141);rfl;exact Bb ts bd pts A w hA;exact Pur.pf;rfl))|refine aC ?_|refine c7 ?_|fail)
 exact ⟨rfl,(by (exact a8 _ _))⟩
theorem GN (ts:List Int) (bd:List AL.Stmt) (pts:List Pnt) (A:List Nat) (w:WG ts pts) (hA:oR ts pts A):PC Tryz.prog 149 [aG ts bd pts] (fun r => r = .imm pts.length (flat cN A)):=by
 refine aD Tryz.func149 Tryz.ntmps149 ?_
 repeat' (first|(apply aF;(apply aA (k := 141);rfl;exact AA ts bd pts A w hA;exact Pur.pf;rfl))|refine aC ?_|refine c7 ?_|fail)
 exact ⟨rfl,(by (exact a8 _ _))⟩
theorem BN (ts:List Int) (bd:List AL.Stmt) (pts:List Pnt) (n:Nat) (B:List Nat) (i:Int) (w:WG ts pts) (hn:n = B.length) (hB:B.length = pts.length) (hs:∀ z:Nat,Sm B[z]!) (hi:0 ≤ i ∧ i < pts.length):PC Tryz.prog 155 [aG ts bd pts,.imm n (flat cN B),iv i] (fun r => r = iv (Iy pts B i.toNat:Nat)):=by
 subst hn
 have hin : i.toNat < pts.length := by omega
 have hnl := w.nl _ hin
 have hpl := w.pl
 refine aD Tryz.func155 Tryz.ntmps155 ?_
 repeat' (first|refine aC ?_|fail)
 refine aH (σ := Nat × Nat) [1,17,18] [] (fun k => [(19,iv (k.1 : Int)),(7,iv (k.2 : Int))]) (fun k => []) (fun k => k.1 ≤ pts[i.toNat]!.next.length ∧ k.2 = ((rU pts i.toNat).take k.1).foldl (fun a k => mM a B[k]!) 0 ∧ Sm k.2) (fun k => pts[i.toNat]!.next.length - k.1) (0,0) ⟨by omega,rfl,inferInstance⟩ ?_
 rintro ⟨k,a⟩ ⟨hk,ha,hsa⟩
 dsimp only at hk ha hsa ⊢
 have hz : k < pts[i.toNat]!.next.length → 0 ≤ pts[i.toNat]!.next[k]! ∧ pts[i.toNat]!.next[k]! < pts.length := fun h => w.nx _ hin _ (aZ _ _ h)
 repeat' (first|refine aC ?_|(refine aJ ?_ ?_ <;> intro hc hq <;> try (exfalso;omega))|refine c7 ?_|fail)
 ·(refine bC (k + 1, _) (Le.renA []) ?_ ?_)
  ·dsimp only
   refine ⟨by omega,?_,inferInstance⟩
   rw [cX _ _ _ _ (by rw [jN]; omega),vX (by omega),← ha]
  ·dsimp only;omega
 ·(refine ⟨?_, rfl⟩; simp only [aN, AV.v.injEq, Value.bool.injEq, Value.int.injEq, true_and])
  rw [ha,List.take_of_length_le (by rw [jN]; omega)]; rfl
theorem FK (ts:List Int) (bd:List AL.Stmt) (pts:List Pnt) (A:List Nat) (w:WG ts pts) (hA:rE ts pts A):PC Tryz.prog 154 [aG ts bd pts] (fun r => r = .imm pts.length (flat cN A)):=by
 have hpl := w.pl
 have hp0 := w.p0
 have htl := w.tl
 refine aD Tryz.func154 Tryz.ntmps154 ?_
 repeat' (first|refine aC ?_|fail)
 refine aH (σ := List Nat × Bool) [0,3] [] (fun s => [(4,bv s.2)]) (fun s => [(0,some (flat cN s.1))]) (fun s => SN ts pts s.1 ∧ (s.2 = false → ∀ i,i < pts.length → oC ts pts s.1 i = s.1[i]!)) (fun s => 2 * eH (s.1.map (fun a => 2 ^ ts.length - a)) + s.2.toNat) (List.replicate pts.length 0,true) ⟨I4,fun h => by cases h⟩ ?_
 rintro ⟨s,b⟩ ⟨hS,hC⟩
 dsimp only at hS hC ⊢
 repeat' (first|refine aC ?_|(refine aJ ?_ ?_ <;> intro hc hq <;> try (exfalso;omega))|fail)
 ·refine aH (σ := Nat × Int × (List Nat × Bool)) [0, 3] [] (fun k => [(5, iv k.2.1), (4, bv k.2.2.2)]) (fun k => [(0, some (flat cN k.2.2.1))]) (fun k => k.1 ≤ pts.length ∧ k.2.1 = (pts.length : Int) - 1 - k.1 ∧ k.2.2 = ((List.range pts.length).reverse.take k.1).foldl (jW ts pts) (s, false) ∧ SN ts pts k.2.2.1) (fun k => pts.length - k.1) (0, (pts.length : Int) - 1, (s, false)) ⟨by omega, by simp, rfl, hS⟩ ?_
  rintro ⟨k,z,u,c⟩ ⟨hk,hz,hf,hS2⟩
  dsimp only at hk hz hf hS2 ⊢
  have hsm : ∀ z : Nat,Sm u[z]! := p7 hS2.1 (fun i A h => h.1) htl
  have hul := hS2.1.1
  have hst := fun h : z.toNat < pts.length => (w.set z.toNat h).1
  have hst2 : aQ pts[z.toNat]! < 62 := by
   by_cases h : z.toNat < pts.length
   ·have := hst h;omega
   ·rw [getElem!_neg pts z.toNat h]; decide
  have hs1 : Sm (wS ts pts[z.toNat]! [1,2,3]) := c6 (by omega)
  have hs2 : Sm (gG pts[z.toNat]!) := pK (by omega)
  have hs3 : Sm (Iy pts u z.toNat) := by
   unfold Iy
   have : ∀ (L : List Nat) (a : Nat), Sm a → Sm (L.foldl (fun a k => a ||| u[k]!) a) := by
    intro L;induction L with
    | nil => exact fun a h => h
    | cons x L ih => exact fun a h => ih _ (inferInstance : Sm (a ||| u[x]!))
   exact this _ _ inferInstance
  have hlaw := fun h : z.toNat < pts.length => tA w u c z.toNat h hS2
  repeat' (first|(apply aF;(first|(apply aA (k := 116);rfl;(apply uK <;> (assumption));exact Pur.pf;rfl)|(apply aA (k := 178);rfl;(apply mP <;> (assumption));exact Pur.pf;rfl)|(apply Ek (k := 155);(case ha => rfl);(case hl => (repeat' (first|exact Ct|apply AU|exact Ie|exact Du rfl inferInstance|exact AZ inferInstance)));(case h => (apply BN <;> (first|assumption|omega)));(case hfr|hN => rfl);(case hmd => infer_instance))))|refine aC ?_|(refine aJ ?_ ?_ <;> intro hc hq <;> try (exfalso;omega))|refine cC ?_|fail)
  ·have hzn : z.toNat < pts.length := by omega
   have hne : oC ts pts u z.toNat ≠ u[z.toNat]! := fun h => hq (congrArg Int.ofNat h)
   have hl := hlaw hzn
   rw [Ca hne] at hl
   have hrg : (List.range pts.length).reverse[k]! = z.toNat := by rw [yD (by omega)]; omega
   (refine bC (k + 1,_,(_,true)) (Le.renA [(0,0)]) ?_ ?_)
   ·dsimp only
    refine ⟨by omega,by omega,?_,hl.1⟩
    rw [cX _ _ _ _ (by simp;omega),← hf,hrg,Ca hne]; rfl
   ·dsimp only;omega
  ·have hzn : z.toNat < pts.length := by omega
   have hne : oC ts pts u z.toNat = u[z.toNat]! := Int.ofNat.inj hq
   have hrg : (List.range pts.length).reverse[k]! = z.toNat := by rw [yD (by omega)]; omega
   (refine bC (k + 1,_,(u,c)) (Le.renA [(0,0)]) ?_ ?_)
   ·dsimp only
    refine ⟨by omega,by omega,?_,hS2⟩
    rw [cX _ _ _ _ (by simp;omega),← hf,hrg,Hu hne]
   ·dsimp only;omega
  ·have law := Dh w s false hS
   have hfull : (u, c) = w9 ts pts (s, false) := by
    rw [hf,List.take_of_length_le (by simp;omega)]; rfl
   rw [← hfull] at law
   (refine bC (u,c) (Le.renA [(0,0)]) ?_ ?_)
   ·dsimp only
    refine ⟨hS2,fun h => ?_⟩
    rcases law.2 with ⟨e1,e2⟩ | ⟨e1,_⟩
    ·cases e1;exact e2
    ·dsimp only at e1;rw [h] at e1;cases e1
   ·dsimp only
    have hb : b = true := by assumption
    subst hb
    rcases law.2 with ⟨e1,e2⟩ | ⟨e1,e2⟩
    ·cases e1;simp
    ·dsimp only at e1 e2;subst e1;omega
 ·have hb : b = false := by assumption
  refine bF (Le.frzD (d := 2) (i := 0) rfl rfl) ?_
  refine aI rfl ⟨?_,(by (exact a8 _ _))⟩
  simp only [aN]
  rw [CX hA (Gh w hS (hC hb))]
theorem xH (ts:List Int) (bd:List AL.Stmt) (pts:List Pnt) (B A:List Nat) (w:WG ts pts) (hB:rE ts pts B) (hA:oV ts pts A):PC Tryz.prog 113 [aG ts bd pts] (fun r => r = .imm pts.length (flat cN A)):=by
 have hpl := w.pl
 have htl := w.tl
 have hBl := hB.1
 have hsm : ∀ z : Nat, Sm B[z]! := by
  intro z
  by_cases hz : z < pts.length
  ·refine ⟨Nat.lt_of_lt_of_le (Nat.lt_pow_two_of_testBit _ (n := 6) fun v hv => ?_) (by decide)⟩
   cases hq : B[z]!.testBit v with
   | false => rfl
   | true => have := qV w ((hB.2 z hz v).1 hq);dsimp only at this;omega
  ·rw [getElem!_neg B z (by rw [hBl]; exact hz)]; exact ⟨by decide⟩
 refine aD Tryz.func113 Tryz.ntmps113 ?_
 repeat' (first|(apply aF;(apply aA (k := 154);rfl;(apply FK <;> (assumption));exact Pur.pf;rfl))|refine aC ?_|fail)
 refine AW.le ?_ (Le.nilOwn (d := 4) 1 rfl (by decide))
 refine aH (σ := Nat × List Nat) [0,3,12] [] (fun k => [(13,iv (k.1 : Int)),(4,.own 0 0 k.1 1)]) (fun k => [(0,some (flat cN k.2))]) (fun k => k.1 ≤ pts.length ∧ k.2 = (List.range k.1).map (Iy pts B)) (fun k => pts.length - k.1) (0,[]) ⟨by omega,rfl⟩ ?_
 rintro ⟨k,u⟩ ⟨hk,hu⟩
 dsimp only at hk hu ⊢
 have hul : u.length = k := by rw [hu]; simp
 repeat' (first|(apply aF;first|(apply aL (t := _);rfl;rfl;rfl;exact (rfl:_=some [_]);rfl;rfl)|(apply aA (k := 155);rfl;(apply BN <;> (first|assumption|omega));exact Pur.pf;rfl))|refine aC ?_|(refine aJ ?_ ?_ <;> intro hc hq <;> try (exfalso;omega))|fail)
 ·(refine bC (k + 1, _) (Le.renA [(0, 2)]) ?_ ?_)
  ·dsimp only
   refine ⟨by omega,?_⟩
   rw [hu,List.range_succ,List.map_append]; rfl
  ·dsimp only;omega
 ·refine bF (Le.frzD (d := 2) (i := 0) rfl rfl) ?_
  refine aI rfl ⟨?_,(by (exact a8 _ _))⟩
  simp only [aN]
  have hkn : k = pts.length := by omega
  subst hkn
  rw [sY hA (w5 w hB),hu]
theorem vK (A:Nat) (hA:Sm A):PC Tryz.prog 100 [iv (A:Int)] (fun r => r = sl cI (a7 A)):=by
 refine aD Tryz.func100 Tryz.ntmps100 ?_
 repeat' (first|refine aC ?_|fail)
 refine AW.le ?_ (Le.nilOwn (d := 3) 1 rfl (by decide))
 refine aH (σ := Nat × List Int × Nat) [0] [] (fun k => [(4,iv (k.1 : Int)),(3,.own 0 0 k.2.2 1)]) (fun k => [(0,some (flat cI k.2.1))]) (fun k => k.1 ≤ 62 ∧ k.2.1 = ((List.range k.1).filter (A.testBit ·)).map (fun v : Nat => (v : Int)) ∧ k.2.2 = k.2.1.length ∧ k.2.2 ≤ k.1) (fun k => 62 - k.1) (0,[],0) ⟨by omega,rfl,rfl,Nat.le_refl _⟩ ?_
 rintro ⟨k,u,m⟩ ⟨hk,hu,hm,hmk⟩
 dsimp only at hk hu hm hmk ⊢
 repeat' (first|(apply aF;(apply aL (t := _);rfl;rfl;rfl;exact (rfl:_=some [_]);rfl;rfl))|refine aC ?_|(refine aJ ?_ ?_ <;> intro hc hq <;> try (exfalso;omega))|fail)
 ·have hlt := By hA (show 0 < ((A >>> k : Nat) : Int) by assumption)
  (refine bC (k + 1,_,_) (Le.renA [(0,2)]) ?_ ?_)
  ·dsimp only
   exact ⟨by omega,tB hq hu,by simp;omega,by omega⟩
  ·dsimp only;omega
 ·have hlt := By hA (show 0 < ((A >>> k : Nat) : Int) by assumption)
  (refine bC (k + 1,u,m) (Le.renA [(0,0)]) ?_ ?_)
  ·dsimp only
   exact ⟨by omega,sH hq hu,hm,by omega⟩
  ·dsimp only;omega
 ·(refine bF (Le.frzD (d := 2) (i := 0) rfl rfl) ?_; refine aI rfl ?_)
  refine ⟨?_,(by (exact a8 _ _))⟩
  simp only [aN,sl]
  rw [nW (k := k) (fun v hv => Fm hq v hv) (by omega) hA,← hu,← hm]
theorem qD (A:Nat) (hA:Sm A):PC Tryz.prog 151 [.v (.int .u64 (A:Int))] (fun r => r = sl cI (a7 A)):=by
 refine aD Tryz.func151 Tryz.ntmps151 ?_
 repeat' (first|refine aC ?_|fail)
 refine AW.le ?_ (Le.nilOwn (d := 3) 1 rfl (by decide))
 refine aH (σ := Nat × List Int × Nat) [0] [] (fun k => [(5,iv (k.1 : Int)),(3,.own 0 0 k.2.2 1)]) (fun k => [(0,some (flat cI k.2.1))]) (fun k => k.1 ≤ 64 ∧ k.2.1 = ((List.range k.1).filter (A.testBit ·)).map (fun v : Nat => (v : Int)) ∧ k.2.2 = k.2.1.length ∧ k.2.2 ≤ k.1) (fun k => 64 - k.1) (0,[],0) ⟨by omega,rfl,rfl,Nat.le_refl _⟩ ?_
 rintro ⟨k,u,m⟩ ⟨hk,hu,hm,hmk⟩
 dsimp only at hk hu hm hmk ⊢
 repeat' (first|(apply aF;(apply aL (t := _);rfl;rfl;rfl;exact (rfl:_=some [_]);rfl;rfl))|refine aC ?_|(refine aJ ?_ ?_ <;> intro hc hq <;> try (exfalso;omega))|fail)
 ·(refine bC (k + 1, _, _) (Le.renA [(0, 2)]) ?_ ?_)
  ·dsimp only
   exact ⟨by omega,tB hq hu,by simp;omega,by omega⟩
  ·dsimp only;omega
 ·(refine bC (k + 1, u, m) (Le.renA [(0, 0)]) ?_ ?_)
  ·dsimp only
   exact ⟨by omega,sH hq hu,hm,by omega⟩
  ·dsimp only;omega
 ·(refine bF (Le.frzD (d := 2) (i := 0) rfl rfl) ?_; refine aI rfl ?_)
  refine ⟨?_,(by (exact a8 _ _))⟩
  simp only [aN,sl]
  rw [nW (k := k) (fun v hv => Nat.testBit_lt_two_pow (Nat.lt_of_lt_of_le hA.pf (Nat.pow_le_pow_right (by decide) (by omega)))) (by omega) hA,← hu,← hm]
theorem zD (ts:List Int) (bd:List AL.Stmt) (pts:List Pnt) (V:Nat) (w:WG ts pts) (hV:Sm V):PC Tryz.prog 186 [aG ts bd pts,iv (V:Int)] (fun r => r = .v (.int .u64 (o7 pts V:Nat))):=by
 have hpl := w.pl
 have htl := w.tl
 refine aD Tryz.func186 Tryz.ntmps186 ?_
 repeat' (first|refine aC ?_|fail)
 refine aH (σ := Nat × Nat) [1,11,12] [] (fun k => [(13,iv (k.1 : Int)),(5,.v (.int .u64 (k.2 : Int)))]) (fun k => []) (fun k => k.1 ≤ pts.length ∧ k.2 = dY (fun l => bJ pts[l]! && V.testBit (pts[l]!.y.toNat)) k.1) (fun k => pts.length - k.1) (0,0) ⟨by omega,rfl⟩ ?_
 rintro ⟨k,A⟩ ⟨hk,hA⟩
 dsimp only at hk hA ⊢
 have hsm : Sm A := hA ▸ c6 (by omega)
 cases hln : bJ pts[k]!
 ·repeat' (first | (apply aF; (apply aA (k := 184);rfl;(apply kS);exact Pur.pf;rfl)) | refine aC ?_ | (refine aJ ?_ ?_ <;> intro hc hq <;> try (exfalso; omega)) | refine c7 ?_|fail)
  ·(refine bC (k + 1, A) (Le.renA []) ?_ ?_)
   ·dsimp only
    exact ⟨by omega,by rw [hA]; exact kL _ _ (by rw [hln]; rfl)⟩
   ·dsimp only;omega
  ·(refine ⟨?_, rfl⟩; simp only [aN, AV.v.injEq, Value.bool.injEq, Value.int.injEq, true_and])
   rw [hA,show k = pts.length by omega]; rfl
 ·have hy := fun (h : k < pts.length) => oD w h hln
  repeat' (first|(apply aF;first|(apply iL;rfl;rfl;infer_instance;omega;rfl;(case' kk => intro hsm))|(apply aA (k := 184);rfl;(apply kS);exact Pur.pf;rfl))|refine aC ?_|(refine aJ ?_ ?_ <;> intro hc hq <;> try (exfalso;omega))|refine c7 ?_|fail)
  ·(refine bC (k + 1, _) (Le.renA []) ?_ ?_)
   ·dsimp only
    exact ⟨by omega,by rw [hA]; exact oS _ _ (by rw [hln,Bool.true_and]; exact (kC _ _).1 hq)⟩
   ·dsimp only;omega
  ·(refine bC (k + 1, A) (Le.renA []) ?_ ?_)
   ·dsimp only
    exact ⟨by omega,by rw [hA]; exact kL _ _ (by rw [hln,Bool.true_and]; cases hb : V.testBit (pts[k]!.y.toNat) with|false => rfl|true => exact absurd ((kC _ _).2 hb) hq)⟩
   ·dsimp only;omega
  ·(refine ⟨?_, rfl⟩; simp only [aN, AV.v.injEq, Value.bool.injEq, Value.int.injEq, true_and])
   rw [hA,show k = pts.length by omega]; rfl
theorem EA (ts:List Int) (bd:List AL.Stmt) (pts:List Pnt) (A:List Nat) (w:WG ts pts) (hA:oT ts pts A):PC Tryz.prog 150 [aG ts bd pts] (fun r => r = .imm pts.length (flat cW A)):=by
 have hpl := w.pl
 have hp0 := w.p0
 have htl := w.tl
 have fl := Kp w
 refine aD Tryz.func150 Tryz.ntmps150 ?_
 repeat' (first|refine aC ?_|fail)
 refine aH (σ := List Nat × Bool) [0,3] [] (fun s => [(4,bv s.2)]) (fun s => [(0,some (flat cW s.1))]) (fun s => SG pts (KG ts pts) s.1 ∧ (s.2 = false → jK mM (tT ts pts) pts s.1)) (fun s => 2 * eH (s.1.map (fun a => 2 ^ pts.length - a)) + s.2.toNat) (List.replicate pts.length 0,true) ⟨A1 fun i hi => ⟨Nat.pow_pos (by decide),fun v h => by simp at h⟩,fun h => by cases h⟩ ?_
 rintro ⟨s,b⟩ ⟨hS,hC⟩
 dsimp only at hS hC ⊢
 repeat' (first|refine aC ?_|(refine aJ ?_ ?_ <;> intro hc hq <;> try (exfalso;omega))|fail)
 ·refine aH (σ := Nat × (List Nat × Bool)) [0, 3, 20, 21] [] (fun k => [(22, iv (k.1 : Int)), (4, bv k.2.2)]) (fun k => [(0, some (flat cW k.2.1))]) (fun k => k.1 ≤ pts.length ∧ k.2 = (List.range k.1).foldl (tN mM (tT ts pts) pts) (s, false) ∧ SG pts (KG ts pts) k.2.1) (fun k => pts.length - k.1) (0, (s, false)) ⟨by omega, rfl, hS⟩ ?_
  rintro ⟨k,u,c⟩ ⟨hk,hf,hS2⟩
  dsimp only at hk hf hS2 ⊢
  have hul := hS2.1
  by_cases hkn : k < pts.length
  ·have hst := (w.set k hkn).1
   have hsm : ∀ z : Nat, Sm u[z]! := by
    intro z
    by_cases hz : z < pts.length
    ·exact ⟨Nat.lt_of_lt_of_le (hS2.2 z hz).1 (Nat.pow_le_pow_right (by decide) (by omega))⟩
    ·rw [getElem!_neg u z (by rw [hul]; exact hz)]; exact ⟨by decide⟩
   have hs1 : Sm (wS ts pts[k]! [2]) := c6 (by omega)
   have hs2 : Sm (gG pts[k]!) := pK (by omega)
   have hs3 : ∀ V,Sm (o7 pts V) := fun V => FA w V
   have hnl := w.nl k hkn
   have e1 : bJ pts[k]! = true → lZ u[k]! (o7 pts (wS ts pts[k]! [2] ||| gG pts[k]!)) ||| 2 ^ (k : Int).toNat = tT ts pts k u[k]! := fun h => by unfold tT Kd;rw [if_pos h]; rfl
   have e0 : bJ pts[k]! = false → lZ u[k]! (o7 pts (wS ts pts[k]! [2] ||| gG pts[k]!)) = tT ts pts k u[k]! := fun h => by unfold tT Kd;rw [if_neg (by rw [h]; simp),Nat.or_zero]
   have hps : Sm (tT ts pts k u[k]!) := ⟨Nat.lt_of_lt_of_le (A9 w hkn (hS2.2 k hkn).1) (Nat.pow_le_pow_right (by decide) (by omega))⟩
   repeat' (first|(apply aF;first|(apply iL;rfl;rfl;infer_instance;omega;rfl;(case' kk => intro hsm))|(first|(apply aA (k := 177);rfl;(apply pB <;> (assumption));exact Pur.pf;rfl)|(apply aA (k := 178);rfl;(apply mP <;> (omega));exact Pur.pf;rfl)|(apply aA (k := 184);rfl;(apply kS);exact Pur.pf;rfl)|(apply aA (k := 186);rfl;(apply zD <;> (first|assumption|infer_instance));exact Pur.pf;rfl)))|refine aC ?_|(refine aJ ?_ ?_ <;> intro hc hq <;> try (exfalso;omega))|refine cC ?_|fail)
   all_goals first|rw [e1 (by assumption)]|rw [e0 (by assumption)]
   all_goals
    refine aH (σ := Nat × (List Nat × Bool)) [0,3,7,20,21,22,47,48] [] (fun j => [(49,iv (j.1 : Int)),(4,bv j.2.2)]) (fun j => [(0,some (flat cW j.2.1))]) (fun j => j.1 ≤ pts[k]!.next.length ∧ j.2 = ((rU pts k).take j.1).foldl (jR mM (tT ts pts k u[k]!)) (u,c) ∧ SG pts (KG ts pts) j.2.1) (fun j => pts[k]!.next.length - j.1) (0,(u,c)) ⟨by omega,rfl,hS2⟩ ?_
    rintro ⟨j,u2,c2⟩ ⟨hj,hf2,hS3⟩
    dsimp only at hj hf2 hS3 ⊢
    have hul2 := hS3.1
    have hsm2 : ∀ z : Nat, Sm u2[z]! := by
     intro z
     by_cases hz : z < pts.length
     ·exact ⟨Nat.lt_of_lt_of_le (hS3.2 z hz).1 (Nat.pow_le_pow_right (by decide) (by omega))⟩
     ·rw [getElem!_neg u2 z (by rw [hul2]; exact hz)]; exact ⟨by decide⟩
    have hz : j < pts[k]!.next.length → 0 ≤ pts[k]!.next[j]! ∧ pts[k]!.next[j]! < pts.length := fun h => w.nx k hkn _ (aZ _ _ h)
    repeat' (first|refine aC ?_|(refine aJ ?_ ?_ <;> intro hc hq <;> try (exfalso;omega))|refine cC ?_|fail)
    ·have hzz := hz (by omega)
     have hed : cE pts k (pts[k]!.next[j]!).toNat := ⟨hkn,by rw [Int.toNat_of_nonneg hzz.1]; exact aZ _ _ (by omega)⟩
     have hne : mM u2[(pts[k]!.next[j]!).toNat]! (tT ts pts k u[k]!) ≠ u2[(pts[k]!.next[j]!).toNat]! := fun h => hq (congrArg Int.ofNat h)
     (refine bC (j + 1,(_,true)) (Le.renA [(0,0)]) ?_ ?_)
     ·dsimp only
      refine ⟨by omega,?_,vC fl w (hS2.2 k hkn) hed hS3⟩
      rw [gM (by omega),← hf2,uW hne]
     ·dsimp only;omega
    ·have hzz := hz (by omega)
     have hne : mM u2[(pts[k]!.next[j]!).toNat]! (tT ts pts k u[k]!) = u2[(pts[k]!.next[j]!).toNat]! := Int.ofNat.inj hq
     (refine bC (j + 1,(u2,c2)) (Le.renA [(0,0)]) ?_ ?_)
     ·dsimp only
      refine ⟨by omega,?_,hS3⟩
      rw [gM (by omega),← hf2,uN hne]
     ·dsimp only;omega
    ·(refine bC (k + 1, (u2, c2)) (Le.renA [(0, 0)]) ?_ ?_)
     ·dsimp only
      refine ⟨by omega,?_,hS3⟩
      rw [dC,← hf,hf2,List.take_of_length_le (by rw [jN]; omega)]; rfl
     ·dsimp only;omega
  ·repeat' (first | refine aC ?_ | (refine aJ ?_ ?_ <;> intro hc hq <;> try (exfalso; omega))|fail)
   have law := rJ w fl s false hS
   have hfull : (u, c) = uA mM (tT ts pts) pts (s, false) := by
    rw [hf,show k = pts.length by omega]; rfl
   rw [← hfull] at law
   (refine bC (u,c) (Le.renA [(0,0)]) ?_ ?_)
   ·dsimp only
    refine ⟨hS2,fun h => ?_⟩
    rcases law.2 with ⟨e1,e2⟩ | ⟨e1,_⟩
    ·cases e1;exact e2
    ·dsimp only at e1;rw [h] at e1;cases e1
   ·dsimp only
    have hb : b = true := by assumption
    subst hb
    rcases law.2 with ⟨e1,e2⟩ | ⟨e1,e2⟩
    ·cases e1;simp
    ·dsimp only at e1 e2;subst e1;omega
 ·have hb : b = false := by assumption
  refine bF (Le.frzD (d := 2) (i := 0) rfl rfl) ?_
  refine aI rfl ⟨?_,(by (exact a8 _ _))⟩
  simp only [aN]
  rw [Cs hA (El w hS (hC hb))]
theorem AN (ts:List Int) (bd:List AL.Stmt) (pts:List Pnt) (i:Int) (f:List Nat) (w:WG ts pts) (hi:0 ≤ i ∧ i < pts.length) (hf:f.length = 6) (hs:∀ z:Nat,Sm f[z]!):PC Tryz.prog 148 [aG ts bd pts,iv i,.agg (flat cW f)] (fun r => r = .agg (flat cW (vL ts pts i.toNat f))):=by
 have hpl := w.pl
 have htl := w.tl
 have hin : i.toNat < pts.length := by omega
 have hst := (w.set i.toNat hin)
 have hy := w.y i.toNat hin
 have hbl := iT (wS ts pts[i.toNat]! [2])
 have hT : Sm (wS ts pts[i.toNat]! [2]) := c6 (by omega)
 refine aD Tryz.func148 Tryz.ntmps148 ?_
 repeat' (first|(apply aF;(first|(apply aA (k := 100);rfl;(apply vK <;> (assumption));(rfl);rfl)|(apply aA (k := 177);rfl;(apply pB <;> (assumption));exact Pur.pf;rfl)))|refine aC ?_|fail)
 refine aH (σ := Nat × List Nat) [0,1,5,6,7,8,23,24] [0,1,2] (fun k => [(25,iv (k.1 : Int))]) (fun k => [(3,some (flat cW k.2))]) (fun k => k.1 ≤ (a7 (wS ts pts[i.toNat]! [2])).length ∧ k.2 = mF ((a7 (wS ts pts[i.toNat]! [2])).take k.1) f ∧ k.2.length = 6) (fun k => (a7 (wS ts pts[i.toNat]! [2])).length - k.1) (0,f) ⟨by omega,rfl,hf⟩ ?_
 rintro ⟨k,u⟩ ⟨hk,hu,hul⟩
 dsimp only at hk hu hul ⊢
 have hbb : k < (a7 (wS ts pts[i.toNat]! [2])).length → 0 ≤ (a7 (wS ts pts[i.toNat]! [2]))[k]! ∧ (a7 (wS ts pts[i.toNat]! [2]))[k]! < ts.length := fun h => kG (sK (fun v => decide (aV ts pts[i.toNat]! v ∈ [2])) ts.length) h
 have husm : ∀ z : Nat,Sm u[z]! := by intro z;rw [hu]; exact JA hs z
 have hset : ∀ (k a : Nat) [Sm a] (z : Nat),Sm (u.set k a)[z]! := fun k a h z => Ay husm h z
 have hset2 : ∀ (k a k2 a2 : Nat) [Sm a] [Sm a2] (z : Nat),Sm ((u.set k a).set k2 a2)[z]! := fun k a k2 a2 h h2 z => Ay (Ay husm h) h2 z
 by_cases hkn : k < (a7 (wS ts pts[i.toNat]! [2])).length
 ·have hbk := hbb hkn
  repeat' (first|refine aC ?_|(refine aJ ?_ ?_ <;> intro hc hq <;> try (exfalso;omega))|fail)
  (refine bC (k + 1,u.set ((a7 (wS ts pts[i.toNat]! [2]))[k]!).toNat 0) (Le.renA [(0,0),(1,1),(2,2),(3,3)]) ?_ ?_)
  ·dsimp only
   exact ⟨by omega,by rw [CF hkn,← hu],by simpa using hul⟩
  ·dsimp only;omega
 ·have hu' : u = mF (a7 (wS ts pts[i.toNat]! [2])) f := by rw [hu, List.take_of_length_le (by omega)]
  cases hln : bJ pts[i.toNat]!
  ·repeat' (first | (apply aF; (first | (apply aA (k := 183);rfl;(apply tL);exact Pur.pf;rfl) | (apply aA (k := 184);rfl;(apply kS);exact Pur.pf;rfl))) | refine aC ?_ | (refine aJ ?_ ?_ <;> intro hc hq <;> try (exfalso; omega)) | refine cC ?_|fail)
   all_goals (refine aI (mD (z := 6) rfl rfl (by first|exact hul|(simp only [List.length_set]; exact hul)) (by decide)) ⟨?_,(by (exact a8 _ _))⟩)
   all_goals simp only [aN,vL,← hu',hln,Bool.false_eq_true,false_and,false_or,if_false]
   all_goals congr 2
   all_goals grind
  ·have hop := nL hln
   repeat' (first|(apply aF;first|(apply iL;rfl;rfl;infer_instance;omega;rfl;(case' kk => intro hsm))|(first|(apply aA (k := 183);rfl;(apply tL);exact Pur.pf;rfl)|(apply aA (k := 184);rfl;(apply kS);exact Pur.pf;rfl)|(apply aA (k := 185);rfl;(apply zF);(rfl);rfl)))|refine aC ?_|(refine aJ ?_ ?_ <;> intro hc hq <;> try (exfalso;omega))|(refine b9 ?_ ?_ <;> intro hg hq <;> try (exfalso;omega))|refine cC ?_|fail)
   all_goals (refine aI (mD (z := 6) rfl rfl (by first|exact hul|(simp only [List.length_set]; exact hul)) (by decide)) ⟨?_,(by (exact a8 _ _))⟩)
   all_goals simp only [aN,vL,← hu',hln,true_and,if_true]
   all_goals congr 2
   all_goals grind
theorem sT (ts:List Int) (bd:List AL.Stmt) (pts:List Pnt) (A:List Nat) (w:WG ts pts) (hA:oP ts pts A):PC Tryz.prog 111 [aG ts bd pts] (fun r => r = .imm pts.length (flat cW A)):=by
 have hpl := w.pl
 have hp0 := w.p0
 have htl := w.tl
 refine aD Tryz.func111 Tryz.ntmps111 ?_
 repeat' (first|refine aC ?_|fail)
 refine aH (σ := List Nat × Bool) [0,3] [] (fun s => [(4,bv s.2)]) (fun s => [(0,some (flat cW s.1))]) (fun s => SF ts pts s.1 ∧ (s.2 = false → vW ts pts s.1)) (fun s => 2 * eH (s.1.map (fun x => 2 ^ pts.length - x)) + s.2.toNat) (List.replicate (pts.length * 6) 0,true) ⟨J9,fun h => by cases h⟩ ?_
 rintro ⟨s,b⟩ ⟨hS,hC⟩
 dsimp only at hS hC ⊢
 repeat' (first|refine aC ?_|(refine aJ ?_ ?_ <;> intro hc hq <;> try (exfalso;omega))|fail)
 ·refine aH (σ := Nat × (List Nat × Bool)) [0, 3, 22, 23] [] (fun k => [(24, iv (k.1 : Int)), (4, bv k.2.2)]) (fun k => [(0, some (flat cW k.2.1))]) (fun k => k.1 ≤ pts.length ∧ k.2 = (List.range k.1).foldl (AI ts pts) (s, false) ∧ SF ts pts k.2.1) (fun k => pts.length - k.1) (0, (s, false)) ⟨by omega, rfl, hS⟩ ?_
  rintro ⟨i,u,c⟩ ⟨hk,hf,hS2⟩
  dsimp only at hk hf hS2 ⊢
  have hul := hS2.1
  have hsm : ∀ z : Nat,Sm u[z]! := IH w hS2
  by_cases hin : i < pts.length
  ·have hnl := w.nl i hin
   have hrl : ((u.drop (i * 6)).take 6).length = 6 := e7 hul hin
   have hrs : ∀ z : Nat, Sm ((u.drop (i * 6)).take 6)[z]! := by
    intro z
    by_cases hz : z < 6
    ·have := eQ hul hin hz;unfold cG at this;rw [this]; exact hsm _
    ·rw [getElem!_neg _ z (by rw [hrl]; exact hz)]; exact ⟨by decide⟩
   have hcl : (vL ts pts (i : Int).toNat ((u.drop (i * 6)).take 6)).length = 6 := (ID ts pts i ((u.drop (i * 6)).take 6)).trans hrl
   repeat' (first|(apply aF;(apply aA (k := 148);rfl;(apply AN <;> (first|assumption|omega));exact Pur.pf;rfl))|refine aC ?_|(refine aJ ?_ ?_ <;> intro hc hq <;> try (exfalso;omega))|fail)
   generalize hcf : vL ts pts (i : Int).toNat ((u.drop (i * 6)).take 6) = a at hcl
   have hcf' : vL ts pts i (cG u i) = a := hcf
   have hasnd : ∀ k,cE pts i k → ∀ v,v < 6 → KL ts pts k v a[v]! := fun k e v hv => by rw [← hcf']; exact Cb w hS2 e hv
   refine aH (σ := Nat × (List Nat × Bool)) [0,3,7,22,23,24,37,38] [2] (fun j => [(39,iv (j.1 : Int)),(4,bv j.2.2)]) (fun j => [(0,some (flat cW j.2.1))]) (fun j => j.1 ≤ pts[i]!.next.length ∧ j.2 = ((rU pts i).take j.1).foldl (rV a) (u,c) ∧ SF ts pts j.2.1) (fun j => pts[i]!.next.length - j.1) (0,(u,c)) ⟨by omega,rfl,hS2⟩ ?_
   rintro ⟨j,u2,c2⟩ ⟨hj,hf2,hS3⟩
   dsimp only at hj hf2 hS3 ⊢
   have hul2 := hS3.1
   by_cases hjn : j < pts[i]!.next.length
   ·have hzz : 0 ≤ pts[i]!.next[j]! ∧ pts[i]!.next[j]! < pts.length := w.nx i hin _ (aZ _ _ hjn)
    have hed : cE pts i (pts[i]!.next[j]!).toNat := ⟨hin,by rw [Int.toNat_of_nonneg hzz.1]; exact aZ _ _ hjn⟩
    have hap := hasnd _ hed
    have hasm : ∀ z : Nat, Sm a[z]! := by
     intro z
     by_cases hz : z < 6
     ·exact ⟨Nat.lt_of_lt_of_le (hap z hz).1 (Nat.pow_le_pow_right (by decide) (by omega))⟩
     ·rw [getElem!_neg a z (by rw [hcl]; exact hz)]; exact ⟨by decide⟩
    repeat' (first|refine aC ?_|(refine aJ ?_ ?_ <;> intro hc hq <;> try (exfalso;omega))|fail)
    refine aH (σ := Nat × (List Nat × Bool)) [0,3,7,9,22,23,24,37,38,39,43] [2] (fun v => [(44,iv (v.1 : Int)),(4,bv v.2.2)]) (fun v => [(0,some (flat cW v.2.1))]) (fun v => v.1 ≤ 6 ∧ v.2 = (List.range v.1).foldl (nY a (pts[i]!.next[j]!).toNat) (u2,c2) ∧ SF ts pts v.2.1) (fun v => 6 - v.1) (0,(u2,c2)) ⟨by omega,rfl,hS3⟩ ?_
    rintro ⟨v,u3,c3⟩ ⟨hv,hf3,hS4⟩
    dsimp only at hv hf3 hS4 ⊢
    have hul3 := hS4.1
    have hsm3 : ∀ z : Nat,Sm u3[z]! := IH w hS4
    by_cases hvn : v < 6
    ·have hlaw := wG (cQ w hed) hap u3 c3 v hvn hS4
     repeat' (first|refine aC ?_|(refine aJ ?_ ?_ <;> intro hc hq <;> try (exfalso;omega))|refine cC ?_|fail)
     ·have hne : mM u3[(pts[i]!.next[j]!).toNat * 6 + v]! a[v]! ≠ u3[(pts[i]!.next[j]!).toNat * 6 + v]! := fun h => hq (congrArg Int.ofNat h)
      have e1 : nY a (pts[i]!.next[j]!).toNat (u3,c3) v = (u3.set ((pts[i]!.next[j]!).toNat * 6 + v) (mM u3[(pts[i]!.next[j]!).toNat * 6 + v]! a[v]!),true) := uW hne
      rw [e1] at hlaw
      (refine bC (v + 1,(_,true)) (Le.renA [(0,0),(2,2)]) ?_ ?_)
      ·dsimp only
       refine ⟨by omega,?_,hlaw.1⟩
       rw [tI,← hf3,e1]; rfl
      ·dsimp only;omega
     ·have hne : mM u3[(pts[i]!.next[j]!).toNat * 6 + v]! a[v]! = u3[(pts[i]!.next[j]!).toNat * 6 + v]! := Int.ofNat.inj hq
      have e1 : nY a (pts[i]!.next[j]!).toNat (u3,c3) v = (u3,c3) := uN hne
      (refine bC (v + 1,(u3,c3)) (Le.renA [(0,0),(2,2)]) ?_ ?_)
      ·dsimp only
       refine ⟨by omega,?_,hS4⟩
       rw [tI,← hf3,e1]
      ·dsimp only;omega
    ·have hv6 : v = 6 := by omega
     subst hv6
     repeat' (first|refine aC ?_|fail)
     (refine bC (j + 1,(u3,c3)) (Le.renA [(0,0),(2,2)]) ?_ ?_)
     ·dsimp only
      refine ⟨by omega,?_,hS4⟩
      rw [Cj hjn,← hf2,hf3]; rfl
     ·dsimp only;omega
   ·repeat' (first | refine aC ?_ | (refine aJ ?_ ?_ <;> intro hc hq <;> try (exfalso; omega))|fail)
    (refine bC (i + 1,(u2,c2)) (Le.renA [(0,0)]) ?_ ?_)
    ·dsimp only
     refine ⟨by omega,?_,hS3⟩
     rw [dC,← hf,hf2,List.take_of_length_le (by rw [jN]; omega),← hcf']; rfl
    ·dsimp only;omega
  ·repeat' (first | refine aC ?_ | (refine aJ ?_ ?_ <;> intro hc hq <;> try (exfalso; omega))|fail)
   have law := E6 w s false hS
   have hfull : (u, c) = DU ts pts (s, false) := by
    rw [hf,show i = pts.length by omega]; rfl
   rw [← hfull] at law
   (refine bC (u,c) (Le.renA [(0,0)]) ?_ ?_)
   ·dsimp only
    refine ⟨hS2,fun h => ?_⟩
    rcases law.2 with ⟨e1,e2⟩ | ⟨e1,_⟩
    ·cases e1;exact e2
    ·dsimp only at e1;rw [h] at e1;cases e1
   ·dsimp only
    have hb : b = true := by assumption
    subst hb
    rcases law.2 with ⟨e1,e2⟩ | ⟨e1,e2⟩
    ·cases e1;simp
    ·dsimp only at e1 e2;subst e1;omega
 ·have hb : b = false := by assumption
  refine bF (Le.frzD (d := 2) (i := 0) rfl rfl) ?_
  refine aI rfl ⟨?_,(by (exact a8 _ _))⟩
  simp only [aN]
  rw [CZ hA (EL w hS (hC hb))]
theorem JZ (ts:List Int) (bd:List AL.Stmt) (pts:List Pnt) (i:Int) (lv:Nat) (f:List Nat) (w:WG ts pts) (hi:0 ≤ i ∧ i < pts.length) (hlv:lv < 2 ^ ts.length) (hf:f.length = 6) (hs:∀ z:Nat,Sm f[z]!):PC Tryz.prog 153 [aG ts bd pts,iv i,iv (lv:Int),.agg (flat cW f)] (fun r => r = .v (.int .u64 (v7 ts pts[i.toNat]! lv f:Nat))):=by
 have hpl := w.pl
 have htl := w.tl
 have hin : i.toNat < pts.length := by omega
 have hst := (w.set i.toNat hin)
 have hsl : Sm lv := ⟨Nat.lt_of_lt_of_le hlv (Nat.pow_le_pow_right (by decide) (by omega))⟩
 have hT : Sm (wS ts pts[i.toNat]! [2]) := c6 (by omega)
 have hB : Sm (gG pts[i.toNat]!) := pK (by omega)
 have hbl := iT (lZ lv (wS ts pts[i.toNat]! [2] ||| gG pts[i.toNat]!))
 have hlt : lZ lv (wS ts pts[i.toNat]! [2] ||| gG pts[i.toNat]!) < 2 ^ ts.length := Nat.xor_lt_two_pow hlv (Nat.lt_of_le_of_lt Nat.and_le_left hlv)
 refine aD Tryz.func153 Tryz.ntmps153 ?_
 repeat' (first|(apply aF;(first|(apply aA (k := 100);rfl;(apply vK <;> (infer_instance));(rfl);rfl)|(apply aA (k := 177);rfl;(apply pB <;> (assumption));exact Pur.pf;rfl)|(apply aA (k := 178);rfl;(apply mP <;> (omega));exact Pur.pf;rfl)))|refine aC ?_|refine cC ?_|fail)
 refine aH (σ := Nat × Nat) [7,28,29] [0] (fun k => [(30,iv (k.1 : Int)),(10,.v (.int .u64 (k.2 : Int)))]) (fun k => []) (fun k => k.1 ≤ (a7 (lZ lv (wS ts pts[i.toNat]! [2] ||| gG pts[i.toNat]!))).length ∧ k.2 = Kh f ((a7 (lZ lv (wS ts pts[i.toNat]! [2] ||| gG pts[i.toNat]!))).take k.1) 0 ∧ Sm k.2) (fun k => (a7 (lZ lv (wS ts pts[i.toNat]! [2] ||| gG pts[i.toNat]!))).length - k.1) (0,0) ⟨by omega,rfl,inferInstance⟩ ?_
 rintro ⟨k,a⟩ ⟨hk,ha,hsa⟩
 dsimp only at hk ha hsa ⊢
 have hbb : k < (a7 (lZ lv (wS ts pts[i.toNat]! [2] ||| gG pts[i.toNat]!))).length → 0 ≤ (a7 (lZ lv (wS ts pts[i.toNat]! [2] ||| gG pts[i.toNat]!)))[k]! ∧ (a7 (lZ lv (wS ts pts[i.toNat]! [2] ||| gG pts[i.toNat]!)))[k]! < ts.length := fun h => kG hlt h
 repeat' (first|refine aC ?_|(refine aJ ?_ ?_ <;> intro hc hq <;> try (exfalso;omega))|fail)
 ·(refine bC (k + 1, _) (Le.renA [(0, 0)]) ?_ ?_)
  ·dsimp only
   refine ⟨by omega,?_,inferInstance⟩
   rw [ha]; unfold Kh;rw [cX _ _ _ _ (by omega)]
  ·dsimp only;omega
 ·refine aI rfl ⟨?_, rfl⟩
  simp only [aN]
  rw [ha,List.take_of_length_le (by omega)]; rfl
theorem zY (ts:List Int) (bd:List AL.Stmt) (pts:List Pnt) (x:Pnt) (mb:Nat) (htl:ts.length ≤ 6) (hmb:Sm mb) (hst:aQ x < ts.length) (hy:0 ≤ x.y ∧ (3 ≤ x.op → x.op ≤ 7 → x.y < ts.length)):PC Tryz.prog 187 [aG ts bd pts,nB x,iv (mb:Int)] (fun r => r = sl CR (iB ts x (mb.testBit (aQ x).toNat))):=by
 refine aD Tryz.func187 Tryz.ntmps187 ?_
 repeat' (first|(apply aF;first|(apply m6 (d := 7) (e := 2);rfl;rfl)|(first|(apply aA (k := 183);rfl;(apply tL);exact Pur.pf;rfl)|(apply aA (k := 201);rfl;(apply Bx <;> (omega));exact Pur.pf;rfl)))|refine aC ?_|(refine aJ ?_ ?_ <;> intro hc hq <;> try (exfalso;omega))|(refine b9 ?_ ?_ <;> intro hg hq <;> try (exfalso;omega))|fail)
 all_goals first|refine bF (Le.frzD (d := 6) (i := 1) rfl rfl) ?_|refine bF (Le.frzD (d := 6) (i := 3) rfl rfl) ?_|refine bF (Le.frzD (d := 6) (i := 5) rfl rfl) ?_
 all_goals refine aI rfl ⟨?_,(by (rfl))⟩
 all_goals simp only [aN,iB]
 all_goals have h1 := kC mb (aQ x).toNat
 all_goals (try (rw [if_neg (show ¬ (0 ≤ aQ x ∧ ts[(aQ x).toNat]! = 2 ∧ mb.testBit (aQ x).toNat = true) from fun h => by omega)]))
 all_goals (simp_all <;> rfl)
theorem CQ (ts:List Int) (bd:List AL.Stmt) (pts:List Pnt) (i:Int) (mb loans:Nat) (w:WG ts pts) (hi:0 ≤ i ∧ i < pts.length) (hmb:Sm mb) (hlo:loans < 2 ^ pts.length):PC Tryz.prog 152 [aG ts bd pts,iv i,iv (mb:Int),.v (.int .u64 (loans:Int))] (fun r => r = .v (.int .u64 (Gy pts loans (iB ts pts[i.toNat]! (mb.testBit (aQ pts[i.toNat]!).toNat)) 0:Nat))):=by
 have hpl := w.pl
 have htl := w.tl
 have hin : i.toNat < pts.length := by omega
 have hst := (w.set i.toNat hin).1
 have hy := w.y i.toNat hin
 have hx := w.x i.toNat hin
 have hop := w.op i.toNat hin
 have hlsm : Sm loans := ⟨Nat.lt_of_lt_of_le hlo (Nat.pow_le_pow_right (by decide) (by omega))⟩
 have hacc := Bh (mb.testBit (aQ pts[i.toNat]!).toNat) w hin
 have hal := yA ts pts[i.toNat]! (mb.testBit (aQ pts[i.toNat]!).toNat)
 refine aD Tryz.func152 Tryz.ntmps152 ?_
 repeat' (first|(apply aF;(apply aA (k := 187);rfl;(apply zY <;> (assumption));exact Pur.pf;rfl))|refine aC ?_|fail)
 generalize iB ts pts[i.toNat]! (mb.testBit (aQ pts[i.toNat]!).toNat) = acs at hacc hal
 refine aH (σ := Nat × Nat) [0,3,23,24] [] (fun k => [(25,iv (k.1 : Int)),(9,.v (.int .u64 (k.2 : Int)))]) (fun k => []) (fun k => k.1 ≤ acs.length ∧ k.2 = Gy pts loans (acs.take k.1) 0 ∧ k.2 < 2 ^ pts.length) (fun k => acs.length - k.1) (0,0) ⟨by omega,rfl,Nat.pow_pos (by decide)⟩ ?_
 rintro ⟨k,a⟩ ⟨hk,ha,hab⟩
 dsimp only at hk ha hab ⊢
 by_cases hkn : k < acs.length
 ·have hcv := hacc _ (aZ acs k hkn)
  have hof : ∀ V,Sm (o7 pts V) := fun V => FA w V
  have hll := iT (loans &&& o7 pts (2 ^ (acs[k]!.var).toNat))
  have hlb : loans &&& o7 pts (2 ^ (acs[k]!.var).toNat) < 2 ^ pts.length := Nat.lt_of_le_of_lt Nat.and_le_left hlo
  have htk := cX (fun a c => HT pts c.write (a7 (loans &&& o7 pts (2 ^ c.var.toNat))) a) acs 0 k hkn
  repeat' (first|(apply aF;first|(apply iL;rfl;rfl;infer_instance;omega;rfl;(case' kk => intro hsm))|(first|(apply aA (k := 151);rfl;(apply qD <;> (infer_instance));(rfl);rfl)|(apply aA (k := 186);rfl;(apply zD <;> (assumption));exact Pur.pf;rfl)))|refine aC ?_|(refine aJ ?_ ?_ <;> intro hc hq <;> try (exfalso;omega))|fail)
  refine aH (σ := Nat × Nat) [0,3,11,23,24,25,36,37] [0] (fun j => [(38,iv (j.1 : Int)),(9,.v (.int .u64 (j.2 : Int)))]) (fun j => []) (fun j => j.1 ≤ (a7 (loans &&& o7 pts (2 ^ (acs[k]!.var).toNat))).length ∧ j.2 = HT pts acs[k]!.write ((a7 (loans &&& o7 pts (2 ^ (acs[k]!.var).toNat))).take j.1) a ∧ j.2 < 2 ^ pts.length) (fun j => (a7 (loans &&& o7 pts (2 ^ (acs[k]!.var).toNat))).length - j.1) (0,a) ⟨by omega,rfl,hab⟩ ?_
  rintro ⟨j,b⟩ ⟨hj,hb,hbb⟩
  dsimp only at hj hb hbb ⊢
  have hbsm : Sm b := ⟨Nat.lt_of_lt_of_le hbb (Nat.pow_le_pow_right (by decide) (by omega))⟩
  by_cases hjn : j < (a7 (loans &&& o7 pts (2 ^ (acs[k]!.var).toNat))).length
  ·have hlz := kG hlb hjn
   have hstep : HT pts acs[k]!.write ((a7 (loans &&& o7 pts (2 ^ (acs[k]!.var).toNat))).take (j + 1)) a = if acs[k]!.write = true ∨ pts[((a7 (loans &&& o7 pts (2 ^ (acs[k]!.var).toNat)))[j]!).toNat]!.op = 5 then b ||| 2 ^ ((a7 (loans &&& o7 pts (2 ^ (acs[k]!.var).toNat)))[j]!).toNat else b := by
    rw [hb]; unfold HT;rw [cX _ _ _ _ hjn]
   have hb2 : b ||| 2 ^ ((a7 (loans &&& o7 pts (2 ^ (acs[k]!.var).toNat)))[j]!).toNat < 2 ^ pts.length := Nat.or_lt_two_pow hbb (Nat.pow_lt_pow_right (by decide) (by omega))
   repeat' (first|(apply aF;(apply iL;rfl;rfl;infer_instance;omega;rfl;(case' kk => intro hsm)))|refine aC ?_|(refine aJ ?_ ?_ <;> intro hc hq <;> try (exfalso;omega))|(refine b9 ?_ ?_ <;> intro hg hq <;> try (exfalso;omega))|fail)
   all_goals first
    | ((refine bC (j + 1, b ||| 2 ^ ((a7 (loans &&& o7 pts (2 ^ (acs[k]!.var).toNat)))[j]!).toNat) (Le.renA [(0, 0)]) ?_ ?_)
       ·dsimp only
        refine ⟨by omega,?_,hb2⟩
        rw [hstep,if_pos (by first|exact .inl (by assumption)|exact .inr (by assumption))]
       ·dsimp only;omega)
    | ((refine bC (j + 1, b) (Le.renA [(0, 0)]) ?_ ?_)
       ·dsimp only
        refine ⟨by omega,?_,hbb⟩
        rw [hstep,if_neg (fun h => h.elim (fun h1 => Bool.noConfusion (h1.symm.trans (by assumption : acs[k]!.write = false))) (fun h2 => absurd h2 (by assumption)))]
       ·dsimp only;omega)
  ·repeat' (first | refine aC ?_ | (refine aJ ?_ ?_ <;> intro hc hq <;> try (exfalso; omega))|fail)
   (refine bC (k + 1,b) (Le.renA []) ?_ ?_)
   ·dsimp only
    refine ⟨by omega,?_,hbb⟩
    rw [hb,List.take_of_length_le (by omega),ha]; unfold Gy;rw [htk]
   ·dsimp only;omega
 ·repeat' (first | refine aC ?_ | (refine aJ ?_ ?_ <;> intro hc hq <;> try (exfalso; omega))|fail)
  refine aI rfl ⟨?_,rfl⟩
  simp only [aN]
  rw [ha,List.take_of_length_le (by omega)]
end Go.Proofs.YtgkalkgplcdnkaaGreat
