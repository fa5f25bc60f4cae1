/-
 A part of the proofs over this program: rules and contracts of its functions (the contracts).
-/
import Derived.Test.YtahdccneecdmmaaGreatJ3A08
import Derived.Test.YtahdccneecdmmaaGreatRows
set_option linter.unusedVariables false
set_option linter.unusedSimpArgs false
set_option maxHeartbeats 8000000
set_option maxRecDepth 4000
attribute [local irreducible] Go.AL.RW Go.AL.AW Go.AL.Stop
namespace Go.Proofs.YtahdccneecdmmaaGreat
open Go.AL
theorem dO (a b c:Int):PC Tryz.prog 54 [iv a,iv b,iv c] (fun r => r = bv (decide (b ≤ a) && decide (a ≤ c))):=by
 refine aC Tryz.func54 Tryz.ntmps54 ?_
 repeat' (first|refine aE ?_|(refine bS ?_ ?_ <;> intro hg hq <;> try (exfalso;omega))|refine dC ?_|fail)
 all_goals (refine ⟨?_,rfl⟩; simp only [aO,AV.v.injEq,Value.bool.injEq,Value.int.injEq,true_and])
 all_goals grind
theorem qQ (t:Int):PC Tryz.prog 234 [iv t] (fun r => r = bv (eF t)):=by
 refine aC Tryz.func234 Tryz.ntmps234 ?_
 repeat' (first|refine aE ?_|(refine bS ?_ ?_ <;> intro hg hq <;> try (exfalso;omega))|refine dC ?_|fail)
 all_goals (refine ⟨?_,rfl⟩; simp only [aO,AV.v.injEq,Value.bool.injEq,Value.int.injEq,true_and])
 all_goals grind [eF]
theorem uT (t:Int):PC Tryz.prog 260 [iv t] (fun r => r = bv (eF t)):=by
 refine aC Tryz.func260 Tryz.ntmps260 ?_
 repeat' (first|refine aE ?_|(refine bS ?_ ?_ <;> intro hg hq <;> try (exfalso;omega))|refine dC ?_|fail)
 all_goals (refine ⟨?_,rfl⟩; simp only [aO,AV.v.injEq,Value.bool.injEq,Value.int.injEq,true_and])
 all_goals grind [eF]
theorem C7 (t:Int):PC Tryz.prog 263 [iv t] (fun r => r = bv (decide (t = 2) || eF t)):=by
 refine aC Tryz.func263 Tryz.ntmps263 ?_
 repeat' (first|(apply aF;(apply aA (k := 234);rfl;(apply qQ);(rfl);rfl))|refine aE ?_|(refine bS ?_ ?_ <;> intro hg hq <;> try (exfalso;omega))|refine dC ?_|fail)
 all_goals (refine ⟨?_,rfl⟩; simp only [aO,AV.v.injEq,Value.bool.injEq,Value.int.injEq,true_and])
 all_goals grind
theorem En (t:Int):PC Tryz.prog 230 [iv t] (fun r => r = bv (decide (t = 9) || decide (t = 10))):=by
 refine aC Tryz.func230 Tryz.ntmps230 ?_
 repeat' (first|refine aE ?_|(refine bS ?_ ?_ <;> intro hg hq <;> try (exfalso;omega))|refine dC ?_|fail)
 all_goals (refine ⟨?_,rfl⟩; simp only [aO,AV.v.injEq,Value.bool.injEq,Value.int.injEq,true_and])
 all_goals grind
theorem Ke (ts:List Int) (v:Int):PC Tryz.prog 264 [sl cI ts,iv v] (fun r => r = iv (fU ts v)):=by
 refine aC Tryz.func264 Tryz.ntmps264 ?_
 repeat' (first|refine aE ?_|(refine aK ?_ ?_ <;> intro hc hq <;> try (exfalso;omega))|(refine bS ?_ ?_ <;> intro hg hq <;> try (exfalso;omega))|refine dC ?_|fail)
 all_goals (refine ⟨?_,rfl⟩; simp only [aO,AV.v.injEq,Value.bool.injEq,Value.int.injEq,true_and])
 all_goals grind [fU]
theorem HE (ts:List Int) (v:Int) (hl:ts.length ≤ 1000000):PC Tryz.prog 55 [sl cI ts,iv v] (fun r => r = iv (fU ts v)):=by
 refine aC Tryz.func55 Tryz.ntmps55 ?_
 repeat' (first|(apply aF;(apply aA (k := 54);rfl;(apply dO);(rfl);rfl))|refine aE ?_|(refine aK ?_ ?_ <;> intro hc hq <;> try (exfalso;omega))|refine dC ?_|fail)
 all_goals (refine ⟨?_,rfl⟩; simp only [aO,AV.v.injEq,Value.bool.injEq,Value.int.injEq,true_and])
 all_goals grind [fU]
theorem Dy (ts:List Int) (s:AL.Stmt) (hl:cC ts = true):PC Tryz.prog 231 [sl cI ts,fG s] (fun r => r = bv (s.th.isEmpty && s.el.isEmpty && dD ts s)):=by
 have hl2 := iO hl
 have hx := jM hl s.x
 have hy := jM hl s.y
 refine aC Tryz.func231 Tryz.ntmps231 ?_
 repeat' (first|(apply aF;(first|(apply aA (k := 54);rfl;(apply dO);(rfl);rfl)|(apply aA (k := 55);rfl;(apply HE <;> (omega));exact Pur.pf;rfl)|(apply aA (k := 263);rfl;(apply C7);(rfl);rfl)))|refine aE ?_|(refine aK ?_ ?_ <;> intro hc hq <;> try (exfalso;omega))|(refine bS ?_ ?_ <;> intro hg hq <;> try (exfalso;omega))|refine bQ ?_|refine dC ?_|fail)
 all_goals (refine ⟨?_,rfl⟩; simp only [aO,AV.v.injEq,Value.bool.injEq,Value.int.injEq,true_and])
 all_goals (cases hth : s.th <;> cases hel : s.el <;> simp only [hth,hel,List.length_nil,List.length_cons,List.isEmpty_nil,List.isEmpty_cons,Bool.true_and,Bool.false_and] at *)
 all_goals (try unfold dD)
 all_goals (try simp only [eF,Bool.or_eq_true,Bool.or_eq_false_iff,decide_eq_true_eq,decide_eq_false_iff_not] at *)
 all_goals grind
theorem C9 (ts:List Int) (s:AL.Stmt) (hl:cC ts = true):PC Tryz.prog 238 [sl cI ts,fG s] (fun r => r = bv (dD ts s)):=by
 have hl2 := iO hl
 have hx := jM hl s.x
 have hy := jM hl s.y
 refine aC Tryz.func238 Tryz.ntmps238 ?_
 repeat' (first|(apply aF;(apply aA (k := 264);rfl;(apply Ke);exact Pur.pf;rfl))|refine aE ?_|(refine aK ?_ ?_ <;> intro hc hq <;> try (exfalso;omega))|(refine bS ?_ ?_ <;> intro hg hq <;> try (exfalso;omega))|refine dC ?_|fail)
 all_goals (refine ⟨?_,rfl⟩; simp only [aO,AV.v.injEq,Value.bool.injEq,Value.int.injEq,true_and])
 all_goals (try unfold dD)
 all_goals grind
theorem Gw (ts:List Int) (hl:cC ts = true) (m:Nat) (ih:∀ l (d:Int),aT l < m → 0 ≤ d → d ≤ 1000 → PC Tryz.prog 128 [sl cI ts,sl aN l,iv d] (fun r => r = bv (okL ts d.toNat l))) (s:AL.Stmt) (d:Int) (hs:cR s ≤ m) (hd0:0 ≤ d) (hd:d ≤ 1000) :
  PC Tryz.prog 195 [sl cI ts,fG s,iv d] (fun r => r = bv (sU ts d.toNat s)) := by
 rw [MM ts d hd0]
 refine aC Tryz.func195 Tryz.ntmps195 ?_
 repeat' (first|(apply aF;(first|(apply aA (k := 128);rfl;(apply ih <;> (first|omega|(have := lY s;omega)));exact Pur.pf;rfl)|(apply aA (k := 238);rfl;(apply C9 <;> (assumption));exact Pur.pf;rfl)))|refine aE ?_|(refine aK ?_ ?_ <;> intro hc hq <;> try (exfalso;omega))|(refine bS ?_ ?_ <;> intro hg hq <;> try (exfalso;omega))|refine dC ?_|fail)
 all_goals (refine ⟨?_,rfl⟩; simp only [aO,AV.v.injEq,Value.bool.injEq,Value.int.injEq,true_and])
 all_goals (cases hth : s.th <;> cases hel : s.el <;> simp only [hth,hel,List.length_nil,List.length_cons,List.isEmpty_nil,List.isEmpty_cons,Bool.true_and,Bool.false_and] at *)
 all_goals grind
theorem Hl (ts:List Int) (hl:cC ts = true) (m:Nat) (ih:∀ s (d:Int),cR s ≤ m → 0 ≤ d → d ≤ 1000 → PC Tryz.prog 195 [sl cI ts,fG s,iv d] (fun r => r = bv (sU ts d.toNat s))) (l:List AL.Stmt) (d:Int) (hs:aT l ≤ m) (hm:m ≤ 100000000) (hd0:0 ≤ d) (hd:d ≤ 1000) :
  PC Tryz.prog 128 [sl cI ts,sl aN l,iv d] (fun r => r = bv (okL ts d.toNat l)) := by
 have hlen := eI l
 refine aC Tryz.func128 Tryz.ntmps128 ?_
 repeat' (first|refine aE ?_|fail)
 refine aH (σ := Nat) [0,1,2] [] (fun k => [(7,iv (k : Int))]) (fun k => []) (fun k => k ≤ l.length ∧ ∀ i,i < k → sU ts d.toNat l[i]! = true) (fun k => l.length - k) (0) ⟨by omega,by omega⟩ ?_
 intro k ⟨hk,hall⟩
 have hck := gV l k
 repeat' (first|(apply aF;(apply aA (k := 195);rfl;(apply ih _ d (Nat.le_trans (hck (by omega)) hs) hd0 hd);exact Pur.pf;rfl))|refine aE ?_|(refine aK ?_ ?_ <;> intro hc hq <;> try (exfalso;omega))|refine dC ?_|fail)
 ·(refine ⟨?_, rfl⟩; simp only [aO, AV.v.injEq, Value.bool.injEq, Value.int.injEq, true_and])
  rw [IZ (k := k) (by omega) hq]
 ·(refine bE (k + 1) (Le.renA []) ?_ ?_)
  ·grind
  ·omega
 ·(refine ⟨?_, rfl⟩; simp only [aO, AV.v.injEq, Value.bool.injEq, Value.int.injEq, true_and])
  rw [Ni (fun i hi => hall i (by omega))]
theorem M5 (ts:List Int) (hl:cC ts = true):∀ (m:Nat),m ≤ 100000000 → (∀ s (d:Int),cR s ≤ m → 0 ≤ d → d ≤ 1000 → PC Tryz.prog 195 [sl cI ts,fG s,iv d] (fun r => r = bv (sU ts d.toNat s))) ∧
  (∀ l (d : Int),aT l ≤ m → 0 ≤ d → d ≤ 1000 → PC Tryz.prog 128 [sl cI ts,sl aN l,iv d] (fun r => r = bv (okL ts d.toNat l))) := by
 intro m
 induction m using Nat.strongRecOn with
 | ind m ih =>
  intro hm
  have h1 : ∀ s (d : Int), cR s ≤ m → 0 ≤ d → d ≤ 1000 → PC Tryz.prog 195 [sl cI ts, fG s, iv d] (fun r => r = bv (sU ts d.toNat s)) :=
   fun s d h1 h2 h3 => Gw ts hl m (fun l d' g1 g2 g3 => (ih (aT l) g1 (by omega)).2 l d' (Nat.le_refl _) g2 g3) s d h1 h2 h3
  exact ⟨h1,fun l d g1 g2 g3 => Hl ts hl m h1 l d g1 hm g2 g3⟩
theorem Ek (m0:Nat) (ih:∀ l (most:Int),aT l < m0 → -1 ≤ most → most ≤ 1000 → PC Tryz.prog 129 [sl aN l,iv most] (fun r => r = iv (oF most 0 l))) (l:List AL.Stmt) (most:Int) (hs:aT l ≤ m0) (hm:m0 ≤ 100000000) (hd0:-1 ≤ most) (hd:most ≤ 1000) :
  PC Tryz.prog 129 [sl aN l,iv most] (fun r => r = iv (oF most 0 l)) := by
 have hlen := eI l
 have hall := mU l most 0
 refine aC Tryz.func129 Tryz.ntmps129 ?_
 repeat' (first|refine aE ?_|fail)
 refine aH (σ := Nat × Int) [0,1] [] (fun k => [(6,iv (k.1 : Int)),(5,iv k.2)]) (fun k => []) (fun k => k.1 ≤ l.length ∧ oF most k.2 (l.drop k.1) = oF most 0 l ∧ 0 ≤ k.2 ∧ k.2 ≤ aT l) (fun k => l.length - k.1) (0,0) ⟨by omega,rfl,by omega,by omega⟩ ?_
 rintro ⟨k,n⟩ ⟨hk,hn,hn0,hn1⟩
 dsimp only at hk hn hn0 hn1 ⊢
 have hck := gV l k
 have hct := lY l[k]!
 have b1 := mU l[k]!.th (most - n) 0
 have b2 := fun z => mU l[k]!.el z 0
 have b3 := Ik l[k]! most n
 have b4 := mU (l.drop (k + 1)) most (Kd most n l[k]!)
 have b5 := Ix most n l k
 rw [Mv] at b3 b4 b5
 repeat' (first|(apply aF;(apply aA (k := 129);rfl;(apply ih <;> omega);exact Pur.pf;rfl))|refine aE ?_|(refine aK ?_ ?_ <;> intro hc hq <;> try (exfalso;omega))|(refine bS ?_ ?_ <;> intro hg hq <;> try (exfalso;omega))|refine dC ?_|fail)
 ·(refine bE (k + 1, n + 1 + oF (most - n) 0 l[k]!.th + oF (most - (n + 1 + oF (most - n) 0 l[k]!.th)) 0 l[k]!.el) (Le.renA []) ?_ ?_)
  ·dsimp only;grind
  ·dsimp only;omega
 ·(refine bE (k + 1, n + 1 + oF (most - n) 0 l[k]!.th) (Le.renA []) ?_ ?_)
  ·dsimp only;grind
  ·dsimp only;omega
 ·(refine ⟨?_, rfl⟩; simp only [aO, AV.v.injEq, Value.bool.injEq, Value.int.injEq, true_and])
  rw [← hn,Ij _ _ _ (by omega)]
 ·(refine ⟨?_, rfl⟩; simp only [aO, AV.v.injEq, Value.bool.injEq, Value.int.injEq, true_and])
  rw [← hn,MS _ _ _ _ (by omega)]
theorem GK (l:List AL.Stmt) (most:Int) (hs:aT l ≤ 100000000) (hd0:-1 ≤ most) (hd:most ≤ 1000) :
  PC Tryz.prog 129 [sl aN l,iv most] (fun r => r = iv (oF most 0 l)) := by
 have h : ∀ (m : Nat), m ≤ 100000000 → ∀ l (most : Int), aT l ≤ m → -1 ≤ most → most ≤ 1000 → PC Tryz.prog 129 [sl aN l, iv most] (fun r => r = iv (oF most 0 l)) := by
  intro m
  induction m using Nat.strongRecOn with
  | ind m ih =>
   intro hm l most h1 h2 h3
   exact Ek m (fun l' most' g1 g2 g3 => ih _ g1 (by omega) l' most' (Nat.le_refl _) g2 g3) l most h1 hm h2 h3
 exact h _ hs l most (Nat.le_refl _) hd0 hd
theorem IJ (ts:List Int) (l:List AL.Stmt) (d:Int) (hl:cC ts = true) (hs:aT l ≤ 100000000) (hd0:0 ≤ d) (hd:d ≤ 1000):PC Tryz.prog 128 [sl cI ts,sl aN l,iv d] (fun r => r = bv (okL ts d.toNat l)) :=
 (M5 ts hl _ hs).2 l d (Nat.le_refl _) hd0 hd
theorem yQ (ts:List Int) (hl:ts.length ≤ 1000000):PC Tryz.prog 127 [sl cI ts] (fun r => r = bv (cC ts)):=by
 refine aC Tryz.func127 Tryz.ntmps127 ?_
 repeat' (first|refine aE ?_|fail)
 refine aH (σ := Nat) [0] [] (fun k => [(3,iv (k : Int))]) (fun k => []) (fun k => k ≤ ts.length ∧ ∀ i,i < k → 1 ≤ ts[i]! ∧ ts[i]! ≤ 4) (fun k => ts.length - k) (0) ⟨by omega,by omega⟩ ?_
 intro k ⟨hk,hall⟩
 repeat' (first|refine aE ?_|(refine aK ?_ ?_ <;> intro hc hq <;> try (exfalso;omega))|(refine bS ?_ ?_ <;> intro hg hq <;> try (exfalso;omega))|refine dC ?_|fail)
 ·(refine ⟨?_, rfl⟩; simp only [aO, AV.v.injEq, Value.bool.injEq, Value.int.injEq, true_and])
  unfold cC;grind [nY,kK]
 ·(refine bE (k + 1) (Le.renA []) ?_ ?_)
  ·grind
  ·omega
 ·(refine ⟨?_, rfl⟩; simp only [aO, AV.v.injEq, Value.bool.injEq, Value.int.injEq, true_and])
  unfold cC;grind [nY,kK]
 ·(refine ⟨?_, rfl⟩; simp only [aO, AV.v.injEq, Value.bool.injEq, Value.int.injEq, true_and])
  unfold cC;grind [nY,kK]
theorem fX (p:Prg) (hl:p.types.length ≤ 1000000) (hs:aT p.body ≤ 100000000):PC Tryz.prog 61 [b8 p] (fun r => r = bv (bD p)):=by
 unfold bD
 cases ht : cC p.types
 ·refine aC Tryz.func61 Tryz.ntmps61 ?_
  repeat' (first|(apply aF;(apply aA (k := 127);rfl;(apply yQ <;> (assumption));exact Pur.pf;rfl))|refine aE ?_|refine dC ?_|fail)
  (refine ⟨?_,rfl⟩; simp only [aO,AV.v.injEq,Value.bool.injEq,Value.int.injEq,true_and])
  rfl
 ·refine aC Tryz.func61 Tryz.ntmps61 ?_
  repeat' (first|(apply aF;(first|(apply aA (k := 127);rfl;(apply yQ <;> (assumption));exact Pur.pf;rfl)|(apply aA (k := 128);rfl;(apply IJ <;> (first|assumption|omega));exact Pur.pf;rfl)|(apply aA (k := 129);rfl;(apply GK <;> (first|assumption|omega));exact Pur.pf;rfl)))|refine aE ?_|(refine bS ?_ ?_ <;> intro hg hq <;> try (exfalso;omega))|refine dC ?_|fail)
  ·(refine ⟨?_, rfl⟩; simp only [aO, AV.v.injEq, Value.bool.injEq, Value.int.injEq, true_and])
   rw [show okL p.types 4 p.body = true from hq]; simp only [Bool.true_and,Ox,decide_eq_decide]; omega
  ·(refine ⟨?_, rfl⟩; simp only [aO, AV.v.injEq, Value.bool.injEq, Value.int.injEq, true_and])
   rw [show okL p.types 4 p.body = false from hq]; rfl
end Go.Proofs.YtahdccneecdmmaaGreat
namespace Go.Proofs.YtahdccneecdmmaaGreat
open Go.AL Go.RowKit
variable {N : Nat} {Q : Exit → AS → Prop} {all : Array Oper} {rest : List Oper} {tsl : List (Nat × AV)} {hsl : List (Nat × Option (List AV))} {nidl : Nat} {z0 : Lo} {md : Md} {d : Nat} {ty : TypeId} {pos : String} {af : Array Edge} {tys : Array TypeId}
theorem LF {ts:List Int}{s:AL.Stmt}{nest c:Int}{x0 x1 x2 x3:Operand}{i0:Nat}(ha0:ev (lk tsl) x0 = some (sl cI ts)) (ha1:ev (lk tsl) x1 = some (fG s)) (ha2:ev (lk tsl) x2 = some (iv nest)) (ha3:ev (lk tsl) x3 = some (.optr i0 0)) (hH0:aU hsl i0 = some ([iv c])) (hmc:MC Tryz.prog 180 [sl cI ts,fG s,iv nest,.optr 0 0] [(0,some ([iv c]))] 1 (fun _:Unit => True) (fun _ => bv (mR ts nest c s).1) (fun _ => [(0,some ([iv (mR ts nest c s).2]))])) (hM:Nat.ble (nidl + 0) aX = true) (hN:Nat.blt d N = true){md':Md}[hmd:MdA md (fP [x0,x1,x2,x3] ++ [.inr i0]) (List.map Sum.inr (List.map Prod.fst ([(i0,some ([iv (mR ts nest c s).2]))]:List (Nat × Option (List AV)))) ++ [.inl d]) md'] (kk:RW Tryz.prog N all Q md' rest ⟨(d,bv (mR ts nest c s).1) :: tsl,gR hsl [(i0,some ([iv (mR ts nest c s).2]))],nidl + 0,z0⟩):RW Tryz.prog N all Q md (⟨some d,.call ⟨.value (.func 180),#[x0,x1,x2,x3],tys⟩,ty,pos,af,none⟩ :: rest) ⟨tsl,hsl,nidl,z0⟩:=by
 exact aZ (l := [x0,x1,x2,x3]) [i0] 1 [(i0,some ([iv (mR ts nest c s).2]))] hmc (avs := [sl cI ts,fG s,iv nest,.optr i0 0]) (by simp only [evL,ha0,ha1,ha2,ha3]) rfl hM hN (md' := md') (hmd := hmd) kk
theorem wG {ts:List Int}{l:List AL.Stmt}{nest c:Int}{x0 x1 x2 x3:Operand}{i0:Nat}(ha0:ev (lk tsl) x0 = some (sl cI ts)) (ha1:ev (lk tsl) x1 = some (sl aN l)) (ha2:ev (lk tsl) x2 = some (iv nest)) (ha3:ev (lk tsl) x3 = some (.optr i0 0)) (hH0:aU hsl i0 = some ([iv c])) (hmc:MC Tryz.prog 101 [sl cI ts,sl aN l,iv nest,.optr 0 0] [(0,some ([iv c]))] 1 (fun _:Unit => True) (fun _ => bv (kQ ts nest c l).1) (fun _ => [(0,some ([iv (kQ ts nest c l).2]))])) (hM:Nat.ble (nidl + 0) aX = true) (hN:Nat.blt d N = true){md':Md}[hmd:MdA md (fP [x0,x1,x2,x3] ++ [.inr i0]) (List.map Sum.inr (List.map Prod.fst ([(i0,some ([iv (kQ ts nest c l).2]))]:List (Nat × Option (List AV)))) ++ [.inl d]) md'] (kk:RW Tryz.prog N all Q md' rest ⟨(d,bv (kQ ts nest c l).1) :: tsl,gR hsl [(i0,some ([iv (kQ ts nest c l).2]))],nidl + 0,z0⟩):RW Tryz.prog N all Q md (⟨some d,.call ⟨.value (.func 101),#[x0,x1,x2,x3],tys⟩,ty,pos,af,none⟩ :: rest) ⟨tsl,hsl,nidl,z0⟩:=by
 exact aZ (l := [x0,x1,x2,x3]) [i0] 1 [(i0,some ([iv (kQ ts nest c l).2]))] hmc (avs := [sl cI ts,sl aN l,iv nest,.optr i0 0]) (by simp only [evL,ha0,ha1,ha2,ha3]) rfl hM hN (md' := md') (hmd := hmd) kk
theorem Mk (ts:List Int) (htO:cC ts = true) (m:Nat) (scanAll_ih:∀ l nest c,aT l < m → 0 ≤ nest → nest ≤ 4 → 0 ≤ c → c ≤ 30 → MC Tryz.prog 101 [sl cI ts,sl aN l,iv nest,.optr 0 0] [(0,some ([iv c]))] 1 (fun _:Unit => True) (fun _ => bv (kQ ts nest c l).1) (fun _ => [(0,some ([iv (kQ ts nest c l).2]))])) (s:AL.Stmt) (nest c:Int) (hs:cR s ≤ m) (hn0:0 ≤ nest) (hn:nest ≤ 4) (hc0:0 ≤ c) (hc:c ≤ 30):MC Tryz.prog 180 [sl cI ts,fG s,iv nest,.optr 0 0] [(0,some ([iv c]))] 1 (fun _:Unit => True) (fun _ => bv (mR ts nest c s).1) (fun _ => [(0,some ([iv (mR ts nest c s).2]))]):=by
 have ct := lY s
 have hb1 := Ob ts s.th (nest + 1) (c + 1)
 refine aV Tryz.func180 Tryz.ntmps180 ?_
 repeat' (first|(apply aF;(first|(apply wG;rfl;rfl;rfl;rfl;(rfl);(apply scanAll_ih <;> (first|assumption|omega|grind));rfl;rfl)|(apply aA (k := 230);rfl;(apply En);(rfl);rfl)|(apply aA (k := 231);rfl;(apply Dy <;> (assumption));exact Pur.pf;rfl)))|refine aE ?_|(refine aK ?_ ?_ <;> intro hc hq <;> try (exfalso;omega))|(refine bS ?_ ?_ <;> intro hg hq <;> try (exfalso;omega))|fail)
 all_goals (refine aD rfl ?_; refine aR () trivial ?_ ⟨sE ?_,trivial⟩)
 all_goals (try simp only [aO,AV.v.injEq,Value.bool.injEq,Value.int.injEq,true_and,hZ,List.take,List.drop,List.length,List.append,List.nil_append,List.append_nil,Option.some.injEq,List.cons.injEq,and_true])
 all_goals rw [LG]
 all_goals clear scanAll_ih
 all_goals (cases hel : s.el <;> simp only [hel,List.length_nil,List.length_cons] at * <;> grind)
theorem Dp (ts:List Int) (m:Nat) (hm:m ≤ 100000000) (scan_ih:∀ s nest c,cR s ≤ m → 0 ≤ nest → nest ≤ 4 → 0 ≤ c → c ≤ 30 → MC Tryz.prog 180 [sl cI ts,fG s,iv nest,.optr 0 0] [(0,some ([iv c]))] 1 (fun _:Unit => True) (fun _ => bv (mR ts nest c s).1) (fun _ => [(0,some ([iv (mR ts nest c s).2]))])) (l:List AL.Stmt) (nest c:Int) (hs:aT l ≤ m) (hn0:0 ≤ nest) (hn:nest ≤ 4) (hc0:0 ≤ c) (hc:c ≤ 30):MC Tryz.prog 101 [sl cI ts,sl aN l,iv nest,.optr 0 0] [(0,some ([iv c]))] 1 (fun _:Unit => True) (fun _ => bv (kQ ts nest c l).1) (fun _ => [(0,some ([iv (kQ ts nest c l).2]))]):=by
 have hlen := eI l
 refine aV Tryz.func101 Tryz.ntmps101 ?_
 repeat' (first|refine aE ?_|fail)
 refine aH (σ := Nat × Int) [0,2,3,11,12] [] (fun k => [(13,iv (k.1 : Int))]) (fun k => [(0,some [iv k.2])]) (fun k => k.1 ≤ l.length ∧ kQ ts nest k.2 (l.drop k.1) = kQ ts nest c l ∧ 0 ≤ k.2 ∧ k.2 ≤ 30) (fun k => l.length - k.1) (0,c) ⟨by omega,rfl,by omega,by omega⟩ ?_
 rintro ⟨k,c'⟩ ⟨hk,hn,hn0,hn1⟩
 dsimp only at hk hn hn0 hn1 ⊢
 have hck := gV l k
 have hb1 := O0 ts l[k]! nest c'
 have hst := @scL_stop ts nest c' l k
 repeat' (first|(apply aF;(apply LF;rfl;rfl;rfl;rfl;(rfl);(apply scan_ih <;> (first|assumption|omega));rfl;rfl))|refine aE ?_|(refine aK ?_ ?_ <;> intro hc hq <;> try (exfalso;omega))|fail)
 ·(refine aD rfl ?_; refine aR () trivial ?_ ⟨sE ?_, trivial⟩)
  all_goals (try simp only [aO,AV.v.injEq,Value.bool.injEq,Value.int.injEq,true_and,hZ,List.take,List.drop,List.length,List.append,List.nil_append,List.append_nil,Option.some.injEq,List.cons.injEq,and_true])
  all_goals (rw [← hn,hst (by omega)]; grind)
 ·(refine bE (k + 1, (mR ts nest c' l[k]!).2) (Le.renA []) ?_ ?_)
  ·dsimp only;grind
  ·dsimp only;omega
 ·(refine aD rfl ?_; refine aR () trivial ?_ ⟨sE ?_, trivial⟩)
  all_goals (try simp only [aO,AV.v.injEq,Value.bool.injEq,Value.int.injEq,true_and,hZ,List.take,List.drop,List.length,List.append,List.nil_append,List.append_nil,Option.some.injEq,List.cons.injEq,and_true])
  all_goals (rw [← hn,List.drop_of_length_le (by omega),kQ])
theorem FU (ts:List Int) (hl:cC ts = true):∀ (m:Nat),m ≤ 100000000 → (∀ s (nest c:Int),cR s ≤ m → 0 ≤ nest → nest ≤ 4 → 0 ≤ c → c ≤ 30 → MC Tryz.prog 180 [sl cI ts,fG s,iv nest,.optr 0 0] [(0,some ([iv c]))] 1 (fun _:Unit => True) (fun _ => bv (mR ts nest c s).1) (fun _ => [(0,some ([iv (mR ts nest c s).2]))])) ∧
  (∀ l (nest c : Int),aT l ≤ m → 0 ≤ nest → nest ≤ 4 → 0 ≤ c → c ≤ 30 → MC Tryz.prog 101 [sl cI ts,sl aN l,iv nest,.optr 0 0] [(0,some ([iv c]))] 1 (fun _ : Unit => True) (fun _ => bv (kQ ts nest c l).1) (fun _ => [(0,some ([iv (kQ ts nest c l).2]))])) := by
 intro m
 induction m using Nat.strongRecOn with
 | ind m ih =>
  intro hm
  have h1 : ∀ s (nest c : Int), cR s ≤ m → 0 ≤ nest → nest ≤ 4 → 0 ≤ c → c ≤ 30 → MC Tryz.prog 180 [sl cI ts, fG s, iv nest, .optr 0 0] [(0, some ([iv c]))] 1 (fun _ : Unit => True) (fun _ => bv (mR ts nest c s).1) (fun _ => [(0, some ([iv (mR ts nest c s).2]))]) :=
   fun s nest c h1 h2 h3 h4 h5 => Mk ts hl m (fun l nest c g1 g2 g3 g4 g5 => (ih (aT l) g1 (by omega)).2 l nest c (Nat.le_refl _) g2 g3 g4 g5) s nest c h1 h2 h3 h4 h5
  exact ⟨h1,fun l nest c g1 g2 g3 g4 g5 => Dp ts m hm h1 l nest c g1 g2 g3 g4 g5⟩
theorem Gh (ts:List Int) (l:List AL.Stmt) (nest c:Int) (hl:cC ts = true) (hs:aT l ≤ 100000000) (hn0:0 ≤ nest) (hn:nest ≤ 4) (hc0:0 ≤ c) (hc:c ≤ 30):MC Tryz.prog 101 [sl cI ts,sl aN l,iv nest,.optr 0 0] [(0,some ([iv c]))] 1 (fun _:Unit => True) (fun _ => bv (kQ ts nest c l).1) (fun _ => [(0,some ([iv (kQ ts nest c l).2]))]) :=
 (FU ts hl _ hs).2 l nest c (Nat.le_refl _) hn0 hn hc0 hc
theorem Dl (t:Int):PC Tryz.prog 179 [iv t] (fun r => r = bv (!(decide (1 ≤ t) && decide (t ≤ 4)))):=by
 refine aC Tryz.func179 Tryz.ntmps179 ?_
 repeat' (first|(apply aF;(apply aA (k := 54);rfl;(apply dO);(rfl);rfl))|refine aE ?_|refine dC ?_|fail)
 all_goals (refine ⟨?_,rfl⟩; simp only [aO,AV.v.injEq,Value.bool.injEq,Value.int.injEq,true_and])
def v5 (ts : List Int) : Int := match ts.findIdx? (fun t => !(decide (1 ≤ t) && decide (t ≤ 4))) with | some i => i | none => -1
theorem HM (ts:List Int) (hl:ts.length ≤ 1000000):PC Tryz.prog 216 [sl cI ts,.v (.func (.func 179) #[] #[])] (fun r => r = iv (v5 ts)):=by
 refine aC Tryz.func216 Tryz.ntmps216 ?_
 repeat' (first|refine aE ?_|fail)
 refine aH (σ := Nat) [0,1,7] [] (fun k => [(8,iv (k : Int))]) (fun k => []) (fun k => k ≤ ts.length ∧ ∀ i,i < k → 1 ≤ ts[i]! ∧ ts[i]! ≤ 4) (fun k => ts.length - k) (0) ⟨by omega,by omega⟩ ?_
 intro k ⟨hk,hall⟩
 repeat' (first|(apply aF;(apply gW;rfl;rfl;infer_instance;rfl;(apply Dl);(rfl);rfl))|refine aE ?_|(refine aK ?_ ?_ <;> intro hc hq <;> try (exfalso;omega))|refine dC ?_|fail)
 ·(refine ⟨?_, rfl⟩; simp only [aO, AV.v.injEq, Value.bool.injEq, Value.int.injEq, true_and])
  have hlt : k < ts.length := by omega
  have : ts.findIdx? (fun t => !(decide (1 ≤ t) && decide (t ≤ 4))) = some k := by
   rw [List.findIdx?_eq_some_iff_getElem]
   refine ⟨hlt,?_,fun j hj => ?_⟩
   ·rw [← bC ts k hlt]; grind
   ·have := hall j hj;rw [bC ts j (by omega)] at this;simp;omega
  simp only [v5,this]
 ·(refine bE (k + 1) (Le.renA []) ?_ ?_)
  ·grind
  ·omega
 ·(refine ⟨?_, rfl⟩; simp only [aO, AV.v.injEq, Value.bool.injEq, Value.int.injEq, true_and])
  have : ts.findIdx? (fun t => !(decide (1 ≤ t) && decide (t ≤ 4))) = none := by
   rw [List.findIdx?_eq_none_iff]
   intro x hx
   obtain ⟨i,hi,rfl⟩ := List.getElem_of_mem hx
   have := hall i (by omega);rw [bC ts i hi] at this;simp;omega
  simp only [v5,this]
theorem Gy (ts:List Int):decide (0 ≤ v5 ts) = !(ts.all (fun t => decide (1 ≤ t) && decide (t ≤ 4))):=by
 unfold v5
 split
 ·rename_i i h
  obtain ⟨h1,h2,_⟩ := List.findIdx?_eq_some_iff_getElem.1 h
  have : ts.all (fun t => decide (1 ≤ t) && decide (t ≤ 4)) = false := by
   rw [List.all_eq_false]; exact ⟨ts[i],List.getElem_mem h1,by simp at h2 ⊢; omega⟩
  rw [this]; simp
 ·rename_i h
  rw [List.findIdx?_eq_none_iff] at h
  have : ts.all (fun t => decide (1 ≤ t) && decide (t ≤ 4)) = true := by
   rw [List.all_eq_true]; intro x hx;simpa using h x hx
  rw [this]; rfl
theorem GN (ts:List Int) (hl:ts.length ≤ 1000000):PC Tryz.prog 157 [sl cI ts,.v (.func (.func 179) #[] #[])] (fun r => r = bv (!(ts.all (fun t => decide (1 ≤ t) && decide (t ≤ 4))))):=by
 refine aC Tryz.func157 Tryz.ntmps157 ?_
 repeat' (first|(apply aF;(apply aA (k := 216);rfl;(apply HM <;> (assumption));exact Pur.pf;rfl))|refine aE ?_|refine dC ?_|fail)
 (refine ⟨?_,rfl⟩; simp only [aO,AV.v.injEq,Value.bool.injEq,Value.int.injEq,true_and])
 exact Gy ts
theorem vP (ts:List Int) (hl:ts.length ≤ 1000000):PC Tryz.prog 100 [sl cI ts] (fun r => r = bv (cC ts)):=by
 refine aC Tryz.func100 Tryz.ntmps100 ?_
 repeat' (first|(apply aF;(apply aA (k := 157);rfl;(apply GN <;> (assumption));exact Pur.pf;rfl))|refine aE ?_|(refine bS ?_ ?_ <;> intro hg hq <;> try (exfalso;omega))|refine dC ?_|fail)
 all_goals (refine ⟨?_,rfl⟩; simp only [aO,AV.v.injEq,Value.bool.injEq,Value.int.injEq,true_and])
 all_goals (unfold cC;grind)
theorem kY (p:Prg) (hl:p.types.length ≤ 1000000) (hs:aT p.body ≤ 100000000):PC Tryz.prog 39 [b8 p] (fun r => r = bv (bD p)):=by
 rw [← FK]
 cases ht : cC p.types
 ·refine aC Tryz.func39 Tryz.ntmps39 ?_
  repeat' (first|(apply aF;(apply aA (k := 100);rfl;(apply vP <;> (assumption));exact Pur.pf;rfl))|refine aE ?_|refine dC ?_|fail)
  all_goals (refine ⟨?_,rfl⟩; simp only [aO,AV.v.injEq,Value.bool.injEq,Value.int.injEq,true_and])
  all_goals grind
 ·refine aC Tryz.func39 Tryz.ntmps39 ?_
  repeat' (first|(apply aF;(first|(apply aA (k := 100);rfl;(apply vP <;> (assumption));exact Pur.pf;rfl)|(apply wG;rfl;rfl;rfl;rfl;(rfl);(apply Gh <;> (first|assumption|omega));rfl;rfl)))|refine aE ?_|refine dC ?_|fail)
  all_goals (refine ⟨?_,rfl⟩; simp only [aO,AV.v.injEq,Value.bool.injEq,Value.int.injEq,true_and])
  all_goals grind
theorem sO {l:List AL.Stmt}{pts:List Pnt}{m:Nat}{x0 x1:Operand}{i0:Nat}(ha0:ev (lk tsl) x0 = some (sl aN l)) (ha1:ev (lk tsl) x1 = some (.own i0 0 m 5)) (hH0:aU hsl i0 = some (flat cM pts)) (hmc:MC Tryz.prog 122 [sl aN l,.own 0 0 m 5] [(0,some (flat cM pts))] 1 (fun _:Unit => True) (fun _ => .own 1 0 (m + dH l) 5) (fun _ => [(1,some (flat cM (pts ++ gJ pts.length l)))])) (hM:Nat.ble (nidl + 1) aX = true) (hN:Nat.blt d N = true){md':Md}[hmd:MdA md (fP [x0,x1] ++ [.inr i0]) (List.map Sum.inr (List.map Prod.fst ([(nidl,some (flat cM (pts ++ gJ pts.length l))),(i0,none)]:List (Nat × Option (List AV)))) ++ [.inl d]) md'] (kk:RW Tryz.prog N all Q md' rest ⟨(d,.own nidl 0 (m + dH l) 5) :: tsl,gR hsl [(nidl,some (flat cM (pts ++ gJ pts.length l))),(i0,none)],nidl + 1,z0⟩):RW Tryz.prog N all Q md (⟨some d,.call ⟨.value (.func 122),#[x0,x1],tys⟩,ty,pos,af,none⟩ :: rest) ⟨tsl,hsl,nidl,z0⟩:=by
 exact aZ (l := [x0,x1]) [i0] 2 [(nidl,some (flat cM (pts ++ gJ pts.length l))),(i0,none)] hmc (avs := [sl aN l,.own i0 0 m 5]) (by simp only [evL,ha0,ha1]) rfl hM hN (md' := md') (hmd := hmd) kk
theorem BQ (mm:Nat) (hmm:mm ≤ 1000000) (pointsOf_ih:∀ l pts m,aT l < mm → m = pts.length → m + dH l ≤ 12000000 → MC Tryz.prog 122 [sl aN l,.own 0 0 m 5] [(0,some (flat cM pts))] 1 (fun _:Unit => True) (fun _ => .own 1 0 (m + dH l) 5) (fun _ => [(1,some (flat cM (pts ++ gJ pts.length l)))])) (l:List AL.Stmt) (pts:List Pnt) (m:Nat) (hs:aT l ≤ mm) (hm:m = pts.length) (hb:m + dH l ≤ 12000000):MC Tryz.prog 122 [sl aN l,.own 0 0 m 5] [(0,some (flat cM pts))] 1 (fun _:Unit => True) (fun _ => .own 1 0 (m + dH l) 5) (fun _ => [(1,some (flat cM (pts ++ gJ pts.length l)))]):=by
 have hlen := eI l
 subst hm
 refine aV Tryz.func122 Tryz.ntmps122 ?_
 repeat' (first|refine aE ?_|fail)
 refine AW.le ?_ (Le.mv (d := 1) (i := 0) (cs := flat cM pts) rfl rfl (by decide))
 refine aH (σ := Nat × List Pnt × Nat) [9,10] [] (fun k => [(11,iv (k.1 : Int)),(1,.own 1 0 k.2.2 5)]) (fun k => [(1,some (flat cM k.2.1))]) (fun k => k.1 ≤ l.length ∧ k.2.1 = pts ++ gJ pts.length (l.take k.1) ∧ k.2.2 = k.2.1.length ∧ k.2.2 = pts.length + dH (l.take k.1)) (fun k => l.length - k.1) (0,pts,pts.length) ⟨by omega,by simp [gJ],rfl,by simp [dH]⟩ ?_
 rintro ⟨k,xs,m1⟩ ⟨hk,hxs,hm1,hm2⟩
 dsimp only at hk hxs hm1 hm2 ⊢
 have hck := gV l k
 have hct := lY l[k]!
 have hnt := Eb l k
 have n9 := Ks l[k]!
 have n10 := D6 l[k]!
 have n1 := JW l[k]!
 repeat' (first|(apply aF;first|(apply aJ (t := _);rfl;rfl;rfl;(first|exact (rfl:_=some [_])|exact (rfl:_=some [_,_])|exact (rfl:_=some [_,_,_,_,_]));rfl;rfl)|(apply sO;rfl;rfl;(rfl);(apply pointsOf_ih <;> (first|omega|(simp only [gE] <;> omega)));rfl;rfl))|refine aE ?_|(refine aK ?_ ?_ <;> intro hc hq <;> try (exfalso;omega))|fail)
 ·(refine bE (k + 1, _, _) (Le.renA [(1, 8)]) ?_ ?_)
  ·dsimp only
   rw [zB hm1,z8 hm1,zA (by rw [b0,hm1]),AF (by rw [b0,hm1]),gT l _ k (by omega),fY l k (by omega),jC,if_pos hq,n9 hq]
   refine ⟨by omega,?_,by simp [b0]; omega,by omega⟩
   have e1 : xs.length = pts.length + dH (l.take k) := by omega
   rw [← List.append_assoc pts,← hxs,← e1]
   simp only [List.append_assoc,List.length_append,List.length_cons,List.length_nil,b0,hm1,Nat.zero_add]
   clear pointsOf_ih hxs hck hnt n9 n10 n1
   grind
  ·dsimp only;omega
 ·(refine bE (k + 1, _, _) (Le.renA [(1, 8)]) ?_ ?_)
  ·dsimp only
   rw [DR hm1,DU hm1,gT l _ k (by omega),fY l k (by omega),jC,if_neg (by omega),if_pos hq,n10 hq]
   refine ⟨by omega,?_,by simp [b0]; omega,by omega⟩
   have e1 : xs.length = pts.length + dH (l.take k) := by omega
   rw [← List.append_assoc pts,← hxs,← e1]
   simp only [List.append_assoc,List.length_append,List.length_cons,List.length_nil,b0,hm1,Nat.zero_add]
   clear pointsOf_ih hxs hck hnt n9 n10 n1
   grind
  ·dsimp only;omega
 ·(refine bE (k + 1, _, _) (Le.renA [(1, 5)]) ?_ ?_)
  ·dsimp only
   rw [gT l _ k (by omega),fY l k (by omega),jC,if_neg ‹¬l[k]!.op = 9›,if_neg hq,n1 ‹¬l[k]!.op = 9› hq]
   refine ⟨by omega,?_,by simp [b0]; omega,by omega⟩
   have e1 : xs.length = pts.length + dH (l.take k) := by omega
   rw [← List.append_assoc pts,← hxs,← e1,hm1]
  ·dsimp only;omega
 ·refine aD rfl ?_
  have e2 : l.take k = l := List.take_of_length_le (by omega)
  rw [e2] at hxs hm2
  refine aR () trivial ?_ ⟨sE ?_,trivial⟩
  ·simp only [aO]; rw [hm2]
  ·rw [hxs]
theorem DB (l:List AL.Stmt) (pts:List Pnt) (m:Nat) (hs:aT l ≤ 1000000) (hm:m = pts.length) (hb:m + dH l ≤ 12000000):MC Tryz.prog 122 [sl aN l,.own 0 0 m 5] [(0,some (flat cM pts))] 1 (fun _:Unit => True) (fun _ => .own 1 0 (m + dH l) 5) (fun _ => [(1,some (flat cM (pts ++ gJ pts.length l)))]):=by
 have h : ∀ (mm : Nat), mm ≤ 1000000 → ∀ l pts m, aT l ≤ mm → m = pts.length → m + dH l ≤ 12000000 → MC Tryz.prog 122 [sl aN l, .own 0 0 m 5] [(0, some (flat cM pts))] 1 (fun _ : Unit => True) (fun _ => .own 1 0 (m + dH l) 5) (fun _ => [(1, some (flat cM (pts ++ gJ pts.length l)))]) := by
  intro mm
  induction mm using Nat.strongRecOn with
  | ind mm ih =>
   intro h0 l pts m h1 h2 h3
   exact BQ mm h0 (fun l' pts' m' g1 g2 g3 => ih _ g1 (by omega) l' pts' m' (Nat.le_refl _) g2 g3) l pts m h1 h2 h3
 exact h _ hs l pts m (Nat.le_refl _) hm hb
theorem zL {l:List AL.Stmt}{x0 x1:Operand}(ha0:ev (lk tsl) x0 = some (sl aN l)) (ha1:ev (lk tsl) x1 = some (.v (.slice none 0 0))) (hmc:MC Tryz.prog 122 [sl aN l,.v (.slice none 0 0)] [] 0 (fun _:Unit => True) (fun _ => .own 0 0 (dH l) 5) (fun _ => [(0,some (flat cM (gJ 0 l)))])) (hM:Nat.ble (nidl + 1) aX = true) (hN:Nat.blt d N = true){md':Md}[hmd:MdA md (fP [x0,x1] ++ []) (List.map Sum.inr (List.map Prod.fst ([(nidl,some (flat cM (gJ 0 l)))]:List (Nat × Option (List AV)))) ++ [.inl d]) md'] (kk:RW Tryz.prog N all Q md' rest ⟨(d,.own nidl 0 (dH l) 5) :: tsl,gR hsl [(nidl,some (flat cM (gJ 0 l)))],nidl + 1,z0⟩):RW Tryz.prog N all Q md (⟨some d,.call ⟨.value (.func 122),#[x0,x1],tys⟩,ty,pos,af,none⟩ :: rest) ⟨tsl,hsl,nidl,z0⟩:=by
 exact aZ (l := [x0,x1]) [] 1 [(nidl,some (flat cM (gJ 0 l)))] hmc (avs := [sl aN l,.v (.slice none 0 0)]) (by simp only [evL,ha0,ha1]) rfl hM hN (md' := md') (hmd := hmd) kk
theorem Cw (l:List AL.Stmt) (hs:aT l ≤ 1000000):MC Tryz.prog 122 [sl aN l,.v (.slice none 0 0)] [] 0 (fun _:Unit => True) (fun _ => .own 0 0 (dH l) 5) (fun _ => [(0,some (flat cM (gJ 0 l)))]):=by
 have hlen := eI l
 have hn2 := nI l
 refine aV Tryz.func122 Tryz.ntmps122 ?_
 repeat' (first|refine aE ?_|fail)
 refine AW.le ?_ (Le.nilOwn (d := 1) 5 rfl (by decide))
 refine aH (σ := Nat × List Pnt × Nat) [9,10] [] (fun k => [(11,iv (k.1 : Int)),(1,.own 0 0 k.2.2 5)]) (fun k => [(0,some (flat cM k.2.1))]) (fun k => k.1 ≤ l.length ∧ k.2.1 = gJ 0 (l.take k.1) ∧ k.2.2 = k.2.1.length ∧ k.2.2 = dH (l.take k.1)) (fun k => l.length - k.1) (0,[],0) ⟨by omega,by simp [gJ],rfl,by simp [dH]⟩ ?_
 rintro ⟨k,xs,m1⟩ ⟨hk,hxs,hm1,hm2⟩
 dsimp only at hk hxs hm1 hm2 ⊢
 have hck := gV l k
 have hct := lY l[k]!
 have hnt := Eb l k
 have n9 := Ks l[k]!
 have n10 := D6 l[k]!
 have n1 := JW l[k]!
 repeat' (first|(apply aF;first|(apply aJ (t := _);rfl;rfl;rfl;(first|exact (rfl:_=some [_])|exact (rfl:_=some [_,_])|exact (rfl:_=some [_,_,_,_,_]));rfl;rfl)|(apply sO;rfl;rfl;(rfl);(apply DB <;> (first|omega|(simp only [gE] <;> omega)));rfl;rfl))|refine aE ?_|(refine aK ?_ ?_ <;> intro hc hq <;> try (exfalso;omega))|fail)
 ·(refine bE (k + 1, _, _) (Le.renA [(0, 7)]) ?_ ?_)
  ·dsimp only
   rw [zB hm1,z8 hm1,zA (by rw [b0,hm1]),AF (by rw [b0,hm1]),gT l _ k (by omega),fY l k (by omega),jC,if_pos hq,n9 hq]
   refine ⟨by omega,?_,by simp [b0]; omega,by omega⟩
   have e1 : dH (l.take k) = xs.length := by omega
   rw [Nat.zero_add,e1]
   rw [← hxs]
   simp only [List.append_assoc,List.length_append,List.length_cons,List.length_nil,b0,hm1,Nat.zero_add]
   clear hxs hck hnt n9 n10 n1
   grind
  ·dsimp only;omega
 ·(refine bE (k + 1, _, _) (Le.renA [(0, 7)]) ?_ ?_)
  ·dsimp only
   rw [DR hm1,DU hm1,gT l _ k (by omega),fY l k (by omega),jC,if_neg (by omega),if_pos hq,n10 hq]
   refine ⟨by omega,?_,by simp [b0]; omega,by omega⟩
   have e1 : dH (l.take k) = xs.length := by omega
   rw [Nat.zero_add,e1]
   rw [← hxs]
   simp only [List.append_assoc,List.length_append,List.length_cons,List.length_nil,b0,hm1,Nat.zero_add]
   clear hxs hck hnt n9 n10 n1
   grind
  ·dsimp only;omega
 ·(refine bE (k + 1, _, _) (Le.renA [(0, 4)]) ?_ ?_)
  ·dsimp only
   rw [gT l _ k (by omega),fY l k (by omega),jC,if_neg ‹¬l[k]!.op = 9›,if_neg hq,n1 ‹¬l[k]!.op = 9› hq]
   refine ⟨by omega,?_,by simp [b0]; omega,by omega⟩
   have e1 : dH (l.take k) = xs.length := by omega
   rw [Nat.zero_add,e1]
   rw [← hxs,hm1]
  ·dsimp only;omega
 ·refine aD rfl ?_
  have e2 : l.take k = l := List.take_of_length_le (by omega)
  rw [e2] at hxs hm2
  refine aR () trivial ?_ ⟨sE ?_,trivial⟩
  ·simp only [aO]; rw [hm2]
  ·rw [hxs]
theorem IS (p:Prg) (hs:aT p.body ≤ 1000000):PC Tryz.prog 80 [b8 p] (fun r => r = sl cM (aB p)):=by
 have hn := nI p.body
 refine aC Tryz.func80 Tryz.ntmps80 ?_
 repeat' (first|(apply aF;first|(apply aJ (t := _);rfl;rfl;rfl;(exact (rfl:_=some [_,_,_,_,_]));rfl;rfl)|(apply zL;rfl;rfl;(apply Cw <;> (assumption));rfl;rfl))|refine aE ?_|fail)
 (refine aS (Le.frzD (d := 2) (i := 3) rfl rfl) ?_; refine aD rfl ?_)
 refine ⟨?_,?_⟩
 ·simp only [aO,sl,aB,List.length_append,List.length_cons,List.length_nil,b0,Nat.zero_add]
 ·(exact bB _ _)
theorem By {l:List AL.Stmt}{pts:List Pnt}{m:Nat}{x0 x1:Operand}{i0:Nat}(ha0:ev (lk tsl) x0 = some (.own i0 0 m 5)) (ha1:ev (lk tsl) x1 = some (sl aN l)) (hH0:aU hsl i0 = some (flat cM pts)) (hmc:MC Tryz.prog 130 [.own 0 0 m 5,sl aN l] [(0,some (flat cM pts))] 1 (fun _:Unit => True) (fun _ => .own 1 0 (m + dH l) 5) (fun _ => [(1,some (flat cM (pts ++ gJ pts.length l)))])) (hM:Nat.ble (nidl + 1) aX = true) (hN:Nat.blt d N = true){md':Md}[hmd:MdA md (fP [x0,x1] ++ [.inr i0]) (List.map Sum.inr (List.map Prod.fst ([(nidl,some (flat cM (pts ++ gJ pts.length l))),(i0,none)]:List (Nat × Option (List AV)))) ++ [.inl d]) md'] (kk:RW Tryz.prog N all Q md' rest ⟨(d,.own nidl 0 (m + dH l) 5) :: tsl,gR hsl [(nidl,some (flat cM (pts ++ gJ pts.length l))),(i0,none)],nidl + 1,z0⟩):RW Tryz.prog N all Q md (⟨some d,.call ⟨.value (.func 130),#[x0,x1],tys⟩,ty,pos,af,none⟩ :: rest) ⟨tsl,hsl,nidl,z0⟩:=by
 exact aZ (l := [x0,x1]) [i0] 2 [(nidl,some (flat cM (pts ++ gJ pts.length l))),(i0,none)] hmc (avs := [.own i0 0 m 5,sl aN l]) (by simp only [evL,ha0,ha1]) rfl hM hN (md' := md') (hmd := hmd) kk
theorem Jt (mm:Nat) (hmm:mm ≤ 1000000) (l2Add_ih:∀ l pts m,aT l < mm → m = pts.length → m + dH l ≤ 12000000 → MC Tryz.prog 130 [.own 0 0 m 5,sl aN l] [(0,some (flat cM pts))] 1 (fun _:Unit => True) (fun _ => .own 1 0 (m + dH l) 5) (fun _ => [(1,some (flat cM (pts ++ gJ pts.length l)))])) (l:List AL.Stmt) (pts:List Pnt) (m:Nat) (hs:aT l ≤ mm) (hm:m = pts.length) (hb:m + dH l ≤ 12000000):MC Tryz.prog 130 [.own 0 0 m 5,sl aN l] [(0,some (flat cM pts))] 1 (fun _:Unit => True) (fun _ => .own 1 0 (m + dH l) 5) (fun _ => [(1,some (flat cM (pts ++ gJ pts.length l)))]):=by
 have hlen := eI l
 subst hm
 refine aV Tryz.func130 Tryz.ntmps130 ?_
 repeat' (first|refine aE ?_|fail)
 refine AW.le ?_ (Le.mv (d := 0) (i := 0) (cs := flat cM pts) rfl rfl (by decide))
 refine aH (σ := Nat × List Pnt × Nat) [1] [] (fun k => [(5,iv (k.1 : Int)),(0,.own 1 0 k.2.2 5)]) (fun k => [(1,some (flat cM k.2.1))]) (fun k => k.1 ≤ l.length ∧ k.2.1 = pts ++ gJ pts.length (l.take k.1) ∧ k.2.2 = k.2.1.length ∧ k.2.2 = pts.length + dH (l.take k.1)) (fun k => l.length - k.1) (0,pts,pts.length) ⟨by omega,by simp [gJ],rfl,by simp [dH]⟩ ?_
 rintro ⟨k,xs,m1⟩ ⟨hk,hxs,hm1,hm2⟩
 dsimp only at hk hxs hm1 hm2 ⊢
 have hck := gV l k
 have hct := lY l[k]!
 have hnt := Eb l k
 have n9 := Ks l[k]!
 have n10 := D6 l[k]!
 have n1 := JW l[k]!
 repeat' (first|(apply aF;first|(apply aJ (t := _);rfl;rfl;rfl;(first|exact (rfl:_=some [_])|exact (rfl:_=some [_,_])|exact (rfl:_=some [_,_,_,_,_]));rfl;rfl)|(apply By;rfl;rfl;(rfl);(apply l2Add_ih <;> (first|omega|(simp only [gE] <;> omega)));rfl;rfl))|refine aE ?_|(refine aK ?_ ?_ <;> intro hc hq <;> try (exfalso;omega))|fail)
 ·(refine bE (k + 1, _, _) (Le.renA [(1, 8)]) ?_ ?_)
  ·dsimp only
   rw [zA (by rw [b0,hm1]),AF (by rw [b0,hm1]),zB hm1,z8 hm1,gT l _ k (by omega),fY l k (by omega),jC,if_pos hq,n9 hq]
   refine ⟨by omega,?_,by simp [b0]; omega,by omega⟩
   have e1 : xs.length = pts.length + dH (l.take k) := by omega
   rw [← List.append_assoc pts,← hxs,← e1]
   simp only [List.append_assoc,List.length_append,List.length_cons,List.length_nil,b0,hm1,Nat.zero_add]
   clear l2Add_ih hxs hck hnt n9 n10 n1
   grind
  ·dsimp only;omega
 ·(refine bE (k + 1, _, _) (Le.renA [(1, 8)]) ?_ ?_)
  ·dsimp only
   rw [DR hm1,DU hm1,gT l _ k (by omega),fY l k (by omega),jC,if_neg (by omega),if_pos hq,n10 hq]
   refine ⟨by omega,?_,by simp [b0]; omega,by omega⟩
   have e1 : xs.length = pts.length + dH (l.take k) := by omega
   rw [← List.append_assoc pts,← hxs,← e1]
   simp only [List.append_assoc,List.length_append,List.length_cons,List.length_nil,b0,hm1,Nat.zero_add]
   clear l2Add_ih hxs hck hnt n9 n10 n1
   grind
  ·dsimp only;omega
 ·(refine bE (k + 1, _, _) (Le.renA [(1, 5)]) ?_ ?_)
  ·dsimp only
   rw [gT l _ k (by omega),fY l k (by omega),jC,if_neg ‹¬l[k]!.op = 9›,if_neg hq,n1 ‹¬l[k]!.op = 9› hq]
   refine ⟨by omega,?_,by simp [b0]; omega,by omega⟩
   have e1 : xs.length = pts.length + dH (l.take k) := by omega
   rw [← List.append_assoc pts,← hxs,← e1,hm1]
  ·dsimp only;omega
 ·refine aD rfl ?_
  have e2 : l.take k = l := List.take_of_length_le (by omega)
  rw [e2] at hxs hm2
  refine aR () trivial ?_ ⟨sE ?_,trivial⟩
  ·simp only [aO]; rw [hm2]
  ·rw [hxs]
theorem Ny (l:List AL.Stmt) (pts:List Pnt) (m:Nat) (hs:aT l ≤ 1000000) (hm:m = pts.length) (hb:m + dH l ≤ 12000000):MC Tryz.prog 130 [.own 0 0 m 5,sl aN l] [(0,some (flat cM pts))] 1 (fun _:Unit => True) (fun _ => .own 1 0 (m + dH l) 5) (fun _ => [(1,some (flat cM (pts ++ gJ pts.length l)))]):=by
 have h : ∀ (mm : Nat), mm ≤ 1000000 → ∀ l pts m, aT l ≤ mm → m = pts.length → m + dH l ≤ 12000000 → MC Tryz.prog 130 [.own 0 0 m 5, sl aN l] [(0, some (flat cM pts))] 1 (fun _ : Unit => True) (fun _ => .own 1 0 (m + dH l) 5) (fun _ => [(1, some (flat cM (pts ++ gJ pts.length l)))]) := by
  intro mm
  induction mm using Nat.strongRecOn with
  | ind mm ih =>
   intro h0 l pts m h1 h2 h3
   exact Jt mm h0 (fun l' pts' m' g1 g2 g3 => ih _ g1 (by omega) l' pts' m' (Nat.le_refl _) g2 g3) l pts m h1 h2 h3
 exact h _ hs l pts m (Nat.le_refl _) hm hb
theorem dP (p:Prg) (hs:aT p.body ≤ 1000000):PC Tryz.prog 132 [b8 p] (fun r => r = sl cM (aB p)):=by
 have hn := nI p.body
 have e0 : ([] : List AV) = flat cM [] := rfl
 refine aC Tryz.func132 Tryz.ntmps132 ?_
 repeat' (first|(apply aF;(apply By;rfl;rfl;(exact Hh rfl);(apply Ny <;> (first|assumption|omega|(simp only [gE] <;> omega)));rfl;rfl))|refine aE ?_|fail)
 (refine aS (Le.frzD (d := 2) (i := 4) rfl rfl) ?_; refine aD rfl ?_)
 refine ⟨?_,(by (exact bB _ _))⟩
 simp only [aO,sl,aB,List.length_append,List.length_cons,List.length_nil,b0,Nat.zero_add,List.nil_append]
theorem z7 (ts:List Int) (bd:List AL.Stmt) (pts:List Pnt) (v:Int) (h:0 ≤ v ∧ v < ts.length):PC Tryz.prog 199 [aG ts bd pts,iv v] (fun r => r = bv (xA ts[v.toNat]!)):=by
 refine aC Tryz.func199 Tryz.ntmps199 ?_
 repeat' (first|refine aE ?_|(refine bS ?_ ?_ <;> intro hg hq <;> try (exfalso;omega))|refine dC ?_|fail)
 all_goals (refine ⟨?_,rfl⟩; simp only [aO,AV.v.injEq,Value.bool.injEq,Value.int.injEq,true_and])
 all_goals grind [xA]
theorem QS (ts:List Int) (bd:List AL.Stmt) (pts:List Pnt) (x:Pnt) (v:Int) (h:0 ≤ v ∧ v < ts.length):PC Tryz.prog 244 [aG ts bd pts,dY x,iv v] (fun r => r = iv (aP ts x v)):=by
 refine aC Tryz.func244 Tryz.ntmps244 ?_
 repeat' (first|(apply aF;(apply aA (k := 199);rfl;(apply z7 <;> (assumption));exact Pur.pf;rfl))|refine aE ?_|(refine aK ?_ ?_ <;> intro hc hq <;> try (exfalso;omega))|(refine bS ?_ ?_ <;> intro hg hq <;> try (exfalso;omega))|refine dC ?_|fail)
 all_goals (refine ⟨?_,rfl⟩; simp only [aO,AV.v.injEq,Value.bool.injEq,Value.int.injEq,true_and])
 all_goals grind [xA,aP]
theorem zJ (x:Pnt):PC Tryz.prog 143 [dY x] (fun r => r = iv (aM x)):=by
 refine aC Tryz.func143 Tryz.ntmps143 ?_
 repeat' (first|refine aE ?_|(refine aK ?_ ?_ <;> intro hc hq <;> try (exfalso;omega))|refine dC ?_|fail)
 all_goals (refine ⟨?_,rfl⟩; simp only [aO,AV.v.injEq,Value.bool.injEq,Value.int.injEq,true_and])
 all_goals grind [aM]
theorem jW (x:Pnt):PC Tryz.prog 233 [dY x] (fun r => r = bv (bW x)):=by
 refine aC Tryz.func233 Tryz.ntmps233 ?_
 repeat' (first|refine aE ?_|(refine bS ?_ ?_ <;> intro hg hq <;> try (exfalso;omega))|refine dC ?_|fail)
 all_goals (refine ⟨?_,rfl⟩; simp only [aO,AV.v.injEq,Value.bool.injEq,Value.int.injEq,true_and])
 all_goals grind [bW]
theorem pF (x:Pnt) (h:aM x < 62):PC Tryz.prog 182 [dY x] (fun r => r = iv (iT x:Nat)):=by
 refine aC Tryz.func182 Tryz.ntmps182 ?_
 repeat' (first|(apply aF;first|(apply g6;rfl;rfl;infer_instance;omega;rfl;(case' kk => intro hsm))|(apply aA (k := 143);rfl;(apply zJ);exact Pur.pf;rfl))|refine aE ?_|(refine aK ?_ ?_ <;> intro hc hq <;> try (exfalso;omega))|refine dC ?_|fail)
 all_goals (refine ⟨?_,rfl⟩; simp only [aO,AV.v.injEq,Value.bool.injEq,Value.int.injEq,true_and])
 all_goals (unfold iT)
 ·rw [if_pos (by omega)]
 ·rw [if_neg (by omega)]; rfl
theorem QJ (ts:List Int) (bd:List AL.Stmt) (pts:List Pnt) (h:ts.length ≤ 6):PC Tryz.prog 232 [aG ts bd pts] (fun r => r = iv ((2 ^ ts.length - 1:Nat):Int)):=by
 have h1 : 2 ^ ts.length ≤ 2 ^ 6 := Nat.pow_le_pow_right (by decide) h
 have h2 : 0 < 2 ^ ts.length := Nat.pow_pos (by decide)
 have h3 : 2 ^ (ts.length : Int).toNat ≤ 2 ^ 6 := h1
 have h4 : 2 ^ (ts.length : Int).toNat = 2 ^ ts.length := rfl
 refine aC Tryz.func232 Tryz.ntmps232 ?_
 repeat' (first|(apply aF;(apply g6;rfl;rfl;infer_instance;omega;rfl;(case' kk => intro hsm)))|refine aE ?_|refine dC ?_|fail)
 all_goals (refine ⟨?_,rfl⟩; simp only [aO,AV.v.injEq,Value.bool.injEq,Value.int.injEq,true_and])
 omega
def Kc (xs : List Int) (v : Int) : Int := match xs.findIdx? (fun t => decide (t = v)) with | some i => i | none => -1
theorem Lr (xs:List Int) (v:Int) (hl:xs.length ≤ 1000000):PC Tryz.prog 119 [sl cI xs,iv v] (fun r => r = iv (Kc xs v)):=by
 refine aC Tryz.func119 Tryz.ntmps119 ?_
 repeat' (first|refine aE ?_|fail)
 refine aH (σ := Nat) [0,1,7] [] (fun k => [(8,iv (k : Int))]) (fun k => []) (fun k => k ≤ xs.length ∧ ∀ i,i < k → xs[i]! ≠ v) (fun k => xs.length - k) (0) ⟨by omega,by omega⟩ ?_
 intro k ⟨hk,hall⟩
 repeat' (first|refine aE ?_|(refine aK ?_ ?_ <;> intro hc hq <;> try (exfalso;omega))|refine dC ?_|fail)
 ·(refine ⟨?_, rfl⟩; simp only [aO, AV.v.injEq, Value.bool.injEq, Value.int.injEq, true_and])
  have hlt : k < xs.length := by omega
  have : xs.findIdx? (fun t => decide (t = v)) = some k := by
   rw [List.findIdx?_eq_some_iff_getElem]
   refine ⟨hlt,?_,fun j hj => ?_⟩
   ·rw [← bC xs k hlt]; grind
   ·have := hall j hj;rw [bC xs j (by omega)] at this;simpa using this
  simp only [Kc,this]
 ·(refine bE (k + 1) (Le.renA []) ?_ ?_)
  ·grind
  ·omega
 ·(refine ⟨?_, rfl⟩; simp only [aO, AV.v.injEq, Value.bool.injEq, Value.int.injEq, true_and])
  have : xs.findIdx? (fun t => decide (t = v)) = none := by
   rw [List.findIdx?_eq_none_iff]
   intro x hx
   obtain ⟨i,hi,rfl⟩ := List.getElem_of_mem hx
   have := hall i (by omega);rw [bC xs i hi] at this;simpa using this
  simp only [Kc,this]
theorem L1 (xs:List Int) (v:Int):decide (0 ≤ Kc xs v) = decide (v ∈ xs):=by
 unfold Kc
 split
 ·rename_i i h
  obtain ⟨h1,h2,_⟩ := List.findIdx?_eq_some_iff_getElem.1 h
  simp only [decide_eq_true_eq] at h2
  have : v ∈ xs := by rw [← h2]; exact List.getElem_mem h1
  simp [this]
 ·rename_i h
  rw [List.findIdx?_eq_none_iff] at h
  have : v ∉ xs := fun hm => by have := h v hm;simp at this
  simp [this]
theorem Di (xs:List Int) (v:Int) (hl:xs.length ≤ 1000000):PC Tryz.prog 56 [sl cI xs,iv v] (fun r => r = bv (decide (v ∈ xs))):=by
 refine aC Tryz.func56 Tryz.ntmps56 ?_
 repeat' (first|(apply aF;(apply aA (k := 119);rfl;(apply Lr <;> (assumption));exact Pur.pf;rfl))|refine aE ?_|refine dC ?_|fail)
 (refine ⟨?_,rfl⟩; simp only [aO,AV.v.injEq,Value.bool.injEq,Value.int.injEq,true_and])
 exact L1 xs v
theorem FF (ts:List Int) (bd:List AL.Stmt) (pts:List Pnt) (x:Pnt) (us:List Int) (h:ts.length ≤ 6) (hu:us.length ≤ 1000):PC Tryz.prog 207 [aG ts bd pts,dY x,sl cI us] (fun r => r = iv (wS ts x us:Nat)):=by
 refine aC Tryz.func207 Tryz.ntmps207 ?_
 repeat' (first|refine aE ?_|fail)
 refine aH (σ := Nat × Nat) [0,2,4,14] [0] (fun k => [(15,iv (k.1 : Int)),(7,iv (k.2 : Int))]) (fun k => []) (fun k => k.1 ≤ ts.length ∧ k.2 = fJ (fun v => decide (aP ts x v ∈ us)) k.1) (fun k => ts.length - k.1) (0,0) ⟨by omega,rfl⟩ ?_
 rintro ⟨k,A⟩ ⟨hk,hA⟩
 dsimp only at hk hA ⊢
 have hsm : Sm A := hA ▸ bY (by omega)
 repeat' (first|(apply aF;first|(apply g6;rfl;rfl;infer_instance;omega;rfl;(case' kk => intro hsm))|(first|(apply aA (k := 56);rfl;(apply Di <;> (omega));exact Pur.pf;rfl)|(apply aA (k := 244);rfl;(apply QS <;> (omega));exact Pur.pf;rfl)))|refine aE ?_|(refine aK ?_ ?_ <;> intro hc hq <;> try (exfalso;omega))|refine dC ?_|fail)
 ·(refine bE (k + 1, _) (Le.renA [(0, 0)]) ?_ ?_)
  ·dsimp only
   rw [hA]
   exact ⟨by omega,sZ _ _ (by simpa using hq)⟩
  ·dsimp only;omega
 ·(refine bE (k + 1, _) (Le.renA [(0, 0)]) ?_ ?_)
  ·dsimp only
   rw [hA]
   exact ⟨by omega,mW _ _ (by simpa using hq)⟩
  ·dsimp only;omega
 ·(refine ⟨?_, rfl⟩; simp only [aO, AV.v.injEq, Value.bool.injEq, Value.int.injEq, true_and])
  rw [hA,show k = ts.length by omega]; rfl
theorem g0 (ts:List Int) (bd:List AL.Stmt) (pts:List Pnt) (x:Pnt) (h:ts.length ≤ 6):PC Tryz.prog 158 [aG ts bd pts,dY x] (fun r => r = iv (wS ts x [1,2,3]:Nat)):=by
 refine aC Tryz.func158 Tryz.ntmps158 ?_
 repeat' (first|(apply aF;first|(apply aJ (t := _);rfl;rfl;rfl;(exact (rfl:_=some [_,_,_]));rfl;rfl)|(apply aA (k := 207);rfl;(apply FF (us := [1,2,3]) <;> (first|assumption|decide));exact Pur.pf;rfl))|refine aE ?_|refine dC ?_|fail)
 (refine ⟨?_,rfl⟩; simp only [aO,AV.v.injEq,Value.bool.injEq,Value.int.injEq,true_and])
theorem tU (ts:List Int) (bd:List AL.Stmt) (pts:List Pnt) (x:Pnt) (h:ts.length ≤ 6):PC Tryz.prog 142 [aG ts bd pts,dY x] (fun r => r = iv (wS ts x [2]:Nat)):=by
 refine aC Tryz.func142 Tryz.ntmps142 ?_
 repeat' (first|(apply aF;first|(apply aJ (t := _);rfl;rfl;rfl;exact (rfl:_=some [_]);rfl;rfl)|(apply aA (k := 207);rfl;(apply FF (us := [2]) <;> (first|assumption|decide));exact Pur.pf;rfl))|refine aE ?_|refine dC ?_|fail)
 (refine ⟨?_,rfl⟩; simp only [aO,AV.v.injEq,Value.bool.injEq,Value.int.injEq,true_and])
theorem wL (ts:List Int) (bd:List AL.Stmt) (pts:List Pnt) (i:Int) (A:Nat) (h:WG ts pts) (hi:0 ≤ i ∧ i < pts.length) (hA:Sm A):PC Tryz.prog 103 [aG ts bd pts,iv i,iv (A:Int)] (fun r => r = iv (hU ts pts[i.toNat]! A:Nat)):=by
 have htl := h.tl
 have hst := (h.set i.toNat (by omega)).1
 have hs1 : Sm (wS ts pts[i.toNat]! [2]) := bY (by omega)
 have hs2 : Sm (iT pts[i.toNat]!) := tG (by omega)
 refine aC Tryz.func103 Tryz.ntmps103 ?_
 repeat' (first|(apply aF;(first|(apply aA (k := 142);rfl;(apply tU <;> (assumption));exact Pur.pf;rfl)|(apply aA (k := 182);rfl;(apply pF <;> (omega));exact Pur.pf;rfl)))|refine aE ?_|refine bQ ?_|refine dC ?_|fail)
 (refine ⟨?_,rfl⟩; simp only [aO,AV.v.injEq,Value.bool.injEq,Value.int.injEq,true_and])
 rfl
theorem DE (ts:List Int) (bd:List AL.Stmt) (pts:List Pnt) (A:List Nat) (w:WG ts pts) (hA:nJ ts pts A):PC Tryz.prog 181 [aG ts bd pts,iv 0,bv false,.clos (.func 103) [aG ts bd pts] []] (fun r => r = .imm pts.length (flat cN A)):=by
 have hpl := w.pl
 have hp0 := w.p0
 have htl := w.tl
 have fl := QZ w
 refine aC Tryz.func181 Tryz.ntmps181 ?_
 repeat' (first|refine aE ?_|fail)
 refine aH (σ := List Nat × Bool) [0,2,3,9] [] (fun s => [(11,bv s.2)]) (fun s => [(0,some (flat cN s.1))]) (fun s => SG pts (Qr ts pts) s.1 ∧ True ∧ (s.2 = false → lP oY (fun i A => hU ts pts[i]! A) pts s.1)) (fun s => 2 * eZ (s.1.map (fun a => 2 ^ ts.length - a)) + s.2.toNat) (((List.replicate pts.length 0).set 0 0),true) ⟨by rw [m8 (by rw [bC _ _ (by simpa using hp0),List.getElem_replicate]) (by simpa using hp0)]; exact Er fun i hi => ⟨Nat.pow_pos (by decide),fun v h => by simp at h⟩,trivial,fun h => by cases h⟩ ?_
 rintro ⟨s,b⟩ ⟨hS,hE,hC⟩
 dsimp only at hS hE hC ⊢
 repeat' (first|refine aE ?_|(refine aK ?_ ?_ <;> intro hc hq <;> try (exfalso;omega))|fail)
 ·refine aH (σ := Nat × (List Nat × Bool)) [0, 2, 3, 9, 43, 44] [] (fun k => [(45, iv (k.1 : Int)), (11, bv k.2.2)]) (fun k => [(0, some (flat cN k.2.1))]) (fun k => k.1 ≤ pts.length ∧ k.2 = (List.range k.1).foldl (A1 oY (fun i A => hU ts pts[i]! A) pts) (s, false) ∧ SG pts (Qr ts pts) k.2.1 ∧ True) (fun k => pts.length - k.1) (0, (s, false)) ⟨by omega, rfl, hS, hE⟩ ?_
  rintro ⟨k,u,c⟩ ⟨hk,hf,hS2,hE2⟩
  dsimp only at hk hf hS2 hE2 ⊢
  have hsm : ∀ z,Sm u[z]! := v7 hS2 (fun i A h => h.1) htl
  have hul := hS2.1
  repeat' (first|(apply aF;(apply gW;rfl;rfl;infer_instance;rfl;(apply wL <;> (first|assumption|omega|infer_instance));exact Pur.pf;rfl))|refine aE ?_|(refine aK ?_ ?_ <;> intro hc hq <;> try (exfalso;omega))|fail)
  ·have hkn : k < pts.length := by omega
   have hv := n7 w hkn (hS2.2 k hkn).1
   have hvs : Sm (hU ts pts[k]! u[k]!) := ⟨Nat.lt_of_lt_of_le hv (Nat.pow_le_pow_right (by decide) (by omega))⟩
   have hvs' : Sm (hU ts pts[(k : Int).toNat]! u[k]!) := hvs
   have hnl := w.nl k hkn
   refine aH (σ := Nat × (List Nat × Bool)) [0,2,3,9,14,43,44,45,58,59] [] (fun j => [(60,iv (j.1 : Int)),(11,bv j.2.2)]) (fun j => [(0,some (flat cN j.2.1))]) (fun j => j.1 ≤ pts[k]!.next.length ∧ j.2 = ((w8 pts k).take j.1).foldl (lK oY (hU ts pts[k]! u[k]!)) (u,c) ∧ SG pts (Qr ts pts) j.2.1 ∧ True) (fun j => pts[k]!.next.length - j.1) (0,(u,c)) ⟨by omega,rfl,hS2,hE2⟩ ?_
   rintro ⟨j,u2,c2⟩ ⟨hj,hf2,hS3,hE3⟩
   dsimp only at hj hf2 hS3 hE3 ⊢
   have hsm2 : ∀ z,Sm u2[z]! := v7 hS3 (fun i A h => h.1) htl
   have hul2 := hS3.1
   have hz : j < pts[k]!.next.length → 0 ≤ pts[k]!.next[j]! ∧ pts[k]!.next[j]! < pts.length := fun h => w.nx k hkn _ (aW _ _ h)
   repeat' (first|refine aE ?_|(refine aK ?_ ?_ <;> intro hc hq <;> try (exfalso;omega))|fail)
   ·have hzz := hz (by omega)
    have hed : cY pts k (pts[k]!.next[j]!).toNat := ⟨hkn,by rw [Int.toNat_of_nonneg hzz.1]; exact aW _ _ (by omega)⟩
    have hne : oY u2[(pts[k]!.next[j]!).toNat]! (hU ts pts[k]! u[k]!) ≠ u2[(pts[k]!.next[j]!).toNat]! := fun h => hq (congrArg Int.ofNat h)
    (refine bE (j + 1,(_,true)) (Le.renA [(0,0)]) ?_ ?_)
    ·dsimp only
     refine ⟨by omega,?_,Aw fl w (hS2.2 k hkn) hed hS3,trivial⟩
     rw [jK (by omega),← hf2,A6 hne]; rfl
    ·dsimp only;omega
   ·have hzz := hz (by omega)
    have hne : oY u2[(pts[k]!.next[j]!).toNat]! (hU ts pts[k]! u[k]!) = u2[(pts[k]!.next[j]!).toNat]! := Int.ofNat.inj hq
    (refine bE (j + 1,(u2,c2)) (Le.renA [(0,0)]) ?_ ?_)
    ·dsimp only
     refine ⟨by omega,?_,hS3,hE3⟩
     rw [jK (by omega),← hf2,zX hne]
    ·dsimp only;omega
   ·(refine bE (k + 1, (u2, c2)) (Le.renA [(0, 0)]) ?_ ?_)
    ·dsimp only
     refine ⟨by omega,?_,hS3,hE3⟩
     rw [eS,← hf,hf2,List.take_of_length_le (by rw [lZ]; omega)]; rfl
    ·dsimp only;omega
  ·have law := w4 w fl s false hS
   have hfull : (u, c) = zM oY (fun i A => hU ts pts[i]! A) pts (s, false) := by
    rw [hf,show k = pts.length by omega]; rfl
   rw [show zM (fun a s => oY a s) (fun i A => hU ts pts[i]! A) pts (s,false) = (u,c) from hfull.symm] at law
   (refine bE (u,c) (Le.renA [(0,0)]) ?_ ?_)
   ·dsimp only
    refine ⟨hS2,hE2,fun h => ?_⟩
    rcases law.2 with ⟨e1,e2⟩ | ⟨e1,_⟩
    ·cases e1;exact e2
    ·dsimp only at e1;rw [h] at e1;cases e1
   ·dsimp only
    have hb : b = true := by assumption
    subst hb
    rcases law.2 with ⟨e1,e2⟩ | ⟨e1,e2⟩
    ·cases e1;simp
    ·dsimp only at e1 e2;subst e1;omega
 ·have hb : b = false := by assumption
  refine aS (Le.frzD (d := 8) (i := 0) rfl rfl) ?_
  refine aD rfl ⟨?_,(by (exact bB _ _))⟩
  simp only [aO]
  rw [Hr hA (IQ w hS (hC hb))]
theorem DX (ts:List Int) (bd:List AL.Stmt) (pts:List Pnt) (A:List Nat) (w:WG ts pts) (hA:oL ts pts A):PC Tryz.prog 181 [aG ts bd pts,iv 0,bv true,.clos (.func 103) [aG ts bd pts] []] (fun r => r = .imm pts.length (flat cN A)):=by
 have hpl := w.pl
 have hp0 := w.p0
 have htl := w.tl
 have fl := Rc w
 refine aC Tryz.func181 Tryz.ntmps181 ?_
 repeat' (first|refine aE ?_|fail)
 refine aH (σ := Nat × List Nat) [0,1,2,3,9,26] [] (fun k => [(27,iv (k.1 : Int))]) (fun k => [(0,some (flat cN k.2))]) (fun k => k.1 ≤ pts.length ∧ k.2 = List.replicate k.1 (2 ^ ts.length - 1) ++ List.replicate (pts.length - k.1) 0) (fun k => pts.length - k.1) (0,List.replicate pts.length 0) ⟨by omega,by simp⟩ ?_
 rintro ⟨k0,u0⟩ ⟨hk0,hu0⟩
 dsimp only at hk0 hu0 ⊢
 have hul0 : u0.length = pts.length := by rw [hu0]; simp;omega
 repeat' (first|(apply aF;(apply aA (k := 232);rfl;(apply QJ <;> (assumption));exact Pur.pf;rfl))|refine aE ?_|(refine aK ?_ ?_ <;> intro hc hq <;> try (exfalso;omega))|fail)
 ·(refine bE (k0 + 1, _) (Le.renA [(0, 0)]) ?_ ?_)
  ·dsimp only
   exact ⟨by omega,by rw [hu0]; exact Mu (by omega)⟩
  ·dsimp only;omega
 have hk1 : k0 = pts.length := by omega
 subst hk1
 rw [Nat.sub_self,List.replicate_zero,List.append_nil] at hu0
 refine aH (σ := List Nat × Bool) [0,2,3,9] [] (fun s => [(11,bv s.2)]) (fun s => [(0,some (flat cN s.1))]) (fun s => SG pts (Qp ts pts) s.1 ∧ s.1[0]! = 0 ∧ (s.2 = false → lP PU (fun i A => hU ts pts[i]! A) pts s.1)) (fun s => 2 * eZ (s.1.map (fun a => a)) + s.2.toNat) ((u0.set 0 0),true) ⟨(Js w hu0).1,(Js w hu0).2,fun h => by cases h⟩ ?_
 rintro ⟨s,b⟩ ⟨hS,hE,hC⟩
 dsimp only at hS hE hC ⊢
 repeat' (first|refine aE ?_|(refine aK ?_ ?_ <;> intro hc hq <;> try (exfalso;omega))|fail)
 ·refine aH (σ := Nat × (List Nat × Bool)) [0, 2, 3, 9, 43, 44] [] (fun k => [(45, iv (k.1 : Int)), (11, bv k.2.2)]) (fun k => [(0, some (flat cN k.2.1))]) (fun k => k.1 ≤ pts.length ∧ k.2 = (List.range k.1).foldl (A1 PU (fun i A => hU ts pts[i]! A) pts) (s, false) ∧ SG pts (Qp ts pts) k.2.1 ∧ k.2.1[0]! = 0) (fun k => pts.length - k.1) (0, (s, false)) ⟨by omega, rfl, hS, hE⟩ ?_
  rintro ⟨k,u,c⟩ ⟨hk,hf,hS2,hE2⟩
  dsimp only at hk hf hS2 hE2 ⊢
  have hsm : ∀ z,Sm u[z]! := v7 hS2 (fun i A h => h.1) htl
  have hul := hS2.1
  repeat' (first|(apply aF;(apply gW;rfl;rfl;infer_instance;rfl;(apply wL <;> (first|assumption|omega|infer_instance));exact Pur.pf;rfl))|refine aE ?_|(refine aK ?_ ?_ <;> intro hc hq <;> try (exfalso;omega))|fail)
  ·have hkn : k < pts.length := by omega
   have hv := n7 w hkn (hS2.2 k hkn).1
   have hvs : Sm (hU ts pts[k]! u[k]!) := ⟨Nat.lt_of_lt_of_le hv (Nat.pow_le_pow_right (by decide) (by omega))⟩
   have hvs' : Sm (hU ts pts[(k : Int).toNat]! u[k]!) := hvs
   have hnl := w.nl k hkn
   refine aH (σ := Nat × (List Nat × Bool)) [0,2,3,9,14,43,44,45,58,59] [] (fun j => [(60,iv (j.1 : Int)),(11,bv j.2.2)]) (fun j => [(0,some (flat cN j.2.1))]) (fun j => j.1 ≤ pts[k]!.next.length ∧ j.2 = ((w8 pts k).take j.1).foldl (lK PU (hU ts pts[k]! u[k]!)) (u,c) ∧ SG pts (Qp ts pts) j.2.1 ∧ j.2.1[0]! = 0) (fun j => pts[k]!.next.length - j.1) (0,(u,c)) ⟨by omega,rfl,hS2,hE2⟩ ?_
   rintro ⟨j,u2,c2⟩ ⟨hj,hf2,hS3,hE3⟩
   dsimp only at hj hf2 hS3 hE3 ⊢
   have hsm2 : ∀ z,Sm u2[z]! := v7 hS3 (fun i A h => h.1) htl
   have hul2 := hS3.1
   have hz : j < pts[k]!.next.length → 0 ≤ pts[k]!.next[j]! ∧ pts[k]!.next[j]! < pts.length := fun h => w.nx k hkn _ (aW _ _ h)
   repeat' (first|refine aE ?_|(refine aK ?_ ?_ <;> intro hc hq <;> try (exfalso;omega))|fail)
   ·have hzz := hz (by omega)
    have hed : cY pts k (pts[k]!.next[j]!).toNat := ⟨hkn,by rw [Int.toNat_of_nonneg hzz.1]; exact aW _ _ (by omega)⟩
    have hne : PU u2[(pts[k]!.next[j]!).toNat]! (hU ts pts[k]! u[k]!) ≠ u2[(pts[k]!.next[j]!).toNat]! := fun h => hq (congrArg Int.ofNat h)
    (refine bE (j + 1,(_,true)) (Le.renA [(0,0)]) ?_ ?_)
    ·dsimp only
     refine ⟨by omega,?_,Aw fl w (hS2.2 k hkn) hed hS3,(by rw [dL _ _ _ _ (by rw [hS3.1]; exact c9 w hed)]; split <;> first|exact hE3|(rename_i q;rw [← q,hE3]; exact Nat.zero_and _))⟩
     rw [jK (by omega),← hf2,A6 hne]; rfl
    ·dsimp only;omega
   ·have hzz := hz (by omega)
    have hne : PU u2[(pts[k]!.next[j]!).toNat]! (hU ts pts[k]! u[k]!) = u2[(pts[k]!.next[j]!).toNat]! := Int.ofNat.inj hq
    (refine bE (j + 1,(u2,c2)) (Le.renA [(0,0)]) ?_ ?_)
    ·dsimp only
     refine ⟨by omega,?_,hS3,hE3⟩
     rw [jK (by omega),← hf2,zX hne]
    ·dsimp only;omega
   ·(refine bE (k + 1, (u2, c2)) (Le.renA [(0, 0)]) ?_ ?_)
    ·dsimp only
     refine ⟨by omega,?_,hS3,hE3⟩
     rw [eS,← hf,hf2,List.take_of_length_le (by rw [lZ]; omega)]; rfl
    ·dsimp only;omega
  ·have law := w4 w fl s false hS
   have hfull : (u, c) = zM PU (fun i A => hU ts pts[i]! A) pts (s, false) := by
    rw [hf,show k = pts.length by omega]; rfl
   rw [show zM (fun a s => PU a s) (fun i A => hU ts pts[i]! A) pts (s,false) = (u,c) from hfull.symm] at law
   (refine bE (u,c) (Le.renA [(0,0)]) ?_ ?_)
   ·dsimp only
    refine ⟨hS2,hE2,fun h => ?_⟩
    rcases law.2 with ⟨e1,e2⟩ | ⟨e1,_⟩
    ·cases e1;exact e2
    ·dsimp only at e1;rw [h] at e1;cases e1
   ·dsimp only
    have hb : b = true := by assumption
    subst hb
    rcases law.2 with ⟨e1,e2⟩ | ⟨e1,e2⟩
    ·cases e1;simp
    ·dsimp only at e1 e2;subst e1;omega
 ·have hb : b = false := by assumption
  refine aS (Le.frzD (d := 8) (i := 0) rfl rfl) ?_
  refine aD rfl ⟨?_,(by (exact bB _ _))⟩
  simp only [aO]
  rw [Gv hA (Kt w hS hE (hC hb))]
theorem vZ (ts:List Int) (bd:List AL.Stmt) (pts:List Pnt) (A:List Nat) (w:WG ts pts) (hA:oL ts pts A):PC Tryz.prog 121 [aG ts bd pts,iv 0] (fun r => r = .imm pts.length (flat cN A)):=by
 refine aC Tryz.func121 Tryz.ntmps121 ?_
 repeat' (first|(apply aF;(apply aA (k := 181);rfl;exact DX ts bd pts A w hA;exact Pur.pf;rfl))|refine aE ?_|refine dC ?_|fail)
 exact ⟨rfl,(by (exact bB _ _))⟩
theorem tI (ts:List Int) (bd:List AL.Stmt) (pts:List Pnt) (A:List Nat) (w:WG ts pts) (hA:nJ ts pts A):PC Tryz.prog 102 [aG ts bd pts] (fun r => r = .imm pts.length (flat cN A)):=by
 refine aC Tryz.func102 Tryz.ntmps102 ?_
 repeat' (first|(apply aF;(apply aA (k := 181);rfl;exact DE ts bd pts A w hA;exact Pur.pf;rfl))|refine aE ?_|refine dC ?_|fail)
 exact ⟨rfl,(by (exact bB _ _))⟩
theorem E8 (ts:List Int) (bd:List AL.Stmt) (pts:List Pnt) (n:Nat) (B:List Nat) (i:Int) (w:WG ts pts) (hn:n = B.length) (hB:B.length = pts.length) (hs:∀ z:Nat,Sm B[z]!) (hi:0 ≤ i ∧ i < pts.length):PC Tryz.prog 189 [aG ts bd pts,.imm n (flat cN B),iv i] (fun r => r = iv (Lf pts B i.toNat:Nat)):=by
 subst hn
 have hin : i.toNat < pts.length := by omega
 have hnl := w.nl _ hin
 have hpl := w.pl
 refine aC Tryz.func189 Tryz.ntmps189 ?_
 repeat' (first|refine aE ?_|fail)
 refine aH (σ := Nat × Nat) [1,17,18] [] (fun k => [(19,iv (k.1 : Int)),(7,iv (k.2 : Int))]) (fun k => []) (fun k => k.1 ≤ pts[i.toNat]!.next.length ∧ k.2 = ((w8 pts i.toNat).take k.1).foldl (fun a k => oY a B[k]!) 0 ∧ Sm k.2) (fun k => pts[i.toNat]!.next.length - k.1) (0,0) ⟨by omega,rfl,inferInstance⟩ ?_
 rintro ⟨k,a⟩ ⟨hk,ha,hsa⟩
 dsimp only at hk ha hsa ⊢
 have hz : k < pts[i.toNat]!.next.length → 0 ≤ pts[i.toNat]!.next[k]! ∧ pts[i.toNat]!.next[k]! < pts.length := fun h => w.nx _ hin _ (aW _ _ h)
 repeat' (first|refine aE ?_|(refine aK ?_ ?_ <;> intro hc hq <;> try (exfalso;omega))|refine dC ?_|fail)
 ·(refine bE (k + 1, _) (Le.renA []) ?_ ?_)
  ·dsimp only
   refine ⟨by omega,?_,inferInstance⟩
   rw [dR _ _ _ _ (by rw [lZ]; omega),zU (by omega),← ha]
  ·dsimp only;omega
 ·(refine ⟨?_, rfl⟩; simp only [aO, AV.v.injEq, Value.bool.injEq, Value.int.injEq, true_and])
  rw [ha,List.take_of_length_le (by rw [lZ]; omega)]; rfl
theorem I2 (ts:List Int) (bd:List AL.Stmt) (pts:List Pnt) (A:List Nat) (w:WG ts pts) (hA:uV ts pts A):PC Tryz.prog 188 [aG ts bd pts] (fun r => r = .imm pts.length (flat cN A)):=by
 have hpl := w.pl
 have hp0 := w.p0
 have htl := w.tl
 refine aC Tryz.func188 Tryz.ntmps188 ?_
 repeat' (first|refine aE ?_|fail)
 refine aH (σ := List Nat × Bool) [0,3] [] (fun s => [(4,bv s.2)]) (fun s => [(0,some (flat cN s.1))]) (fun s => SN ts pts s.1 ∧ (s.2 = false → ∀ i,i < pts.length → rS ts pts s.1 i = s.1[i]!)) (fun s => 2 * eZ (s.1.map (fun a => 2 ^ ts.length - a)) + s.2.toNat) (List.replicate pts.length 0,true) ⟨N5,fun h => by cases h⟩ ?_
 rintro ⟨s,b⟩ ⟨hS,hC⟩
 dsimp only at hS hC ⊢
 repeat' (first|refine aE ?_|(refine aK ?_ ?_ <;> intro hc hq <;> try (exfalso;omega))|fail)
 ·refine aH (σ := Nat × Int × (List Nat × Bool)) [0, 3] [] (fun k => [(5, iv k.2.1), (4, bv k.2.2.2)]) (fun k => [(0, some (flat cN k.2.2.1))]) (fun k => k.1 ≤ pts.length ∧ k.2.1 = (pts.length : Int) - 1 - k.1 ∧ k.2.2 = ((List.range pts.length).reverse.take k.1).foldl (mA ts pts) (s, false) ∧ SN ts pts k.2.2.1) (fun k => pts.length - k.1) (0, (pts.length : Int) - 1, (s, false)) ⟨by omega, by simp, rfl, hS⟩ ?_
  rintro ⟨k,z,u,c⟩ ⟨hk,hz,hf,hS2⟩
  dsimp only at hk hz hf hS2 ⊢
  have hsm : ∀ z : Nat,Sm u[z]! := v7 hS2.1 (fun i A h => h.1) htl
  have hul := hS2.1.1
  have hst := fun h : z.toNat < pts.length => (w.set z.toNat h).1
  have hst2 : aM pts[z.toNat]! < 62 := by
   by_cases h : z.toNat < pts.length
   ·have := hst h;omega
   ·rw [getElem!_neg pts z.toNat h]; decide
  have hs1 : Sm (wS ts pts[z.toNat]! [1,2,3]) := bY (by omega)
  have hs2 : Sm (iT pts[z.toNat]!) := tG (by omega)
  have hs3 : Sm (Lf pts u z.toNat) := by
   unfold Lf
   have : ∀ (L : List Nat) (a : Nat), Sm a → Sm (L.foldl (fun a k => a ||| u[k]!) a) := by
    intro L;induction L with
    | nil => exact fun a h => h
    | cons x L ih => exact fun a h => ih _ (inferInstance : Sm (a ||| u[x]!))
   exact this _ _ inferInstance
  have hlaw := fun h : z.toNat < pts.length => yP w u c z.toNat h hS2
  repeat' (first|(apply aF;(first|(apply aA (k := 158);rfl;(apply g0 <;> (assumption));exact Pur.pf;rfl)|(apply aA (k := 182);rfl;(apply pF <;> (assumption));exact Pur.pf;rfl)|(apply qK (k := 189);(case ha => rfl);(case hl => (repeat' (first|exact nV|apply lJ|exact zH|exact nN rfl inferInstance|exact D5 inferInstance)));(case h => (apply E8 <;> (first|assumption|omega)));(case hfr|hN => rfl);(case hmd => infer_instance))))|refine aE ?_|(refine aK ?_ ?_ <;> intro hc hq <;> try (exfalso;omega))|refine bQ ?_|fail)
  ·have hzn : z.toNat < pts.length := by omega
   have hne : rS ts pts u z.toNat ≠ u[z.toNat]! := fun h => hq (congrArg Int.ofNat h)
   have hl := hlaw hzn
   rw [ES hne] at hl
   have hrg : (List.range pts.length).reverse[k]! = z.toNat := by rw [BG (by omega)]; omega
   (refine bE (k + 1,_,(_,true)) (Le.renA [(0,0)]) ?_ ?_)
   ·dsimp only
    refine ⟨by omega,by omega,?_,hl.1⟩
    rw [dR _ _ _ _ (by simp;omega),← hf,hrg,ES hne]; rfl
   ·dsimp only;omega
  ·have hzn : z.toNat < pts.length := by omega
   have hne : rS ts pts u z.toNat = u[z.toNat]! := Int.ofNat.inj hq
   have hrg : (List.range pts.length).reverse[k]! = z.toNat := by rw [BG (by omega)]; omega
   (refine bE (k + 1,_,(u,c)) (Le.renA [(0,0)]) ?_ ?_)
   ·dsimp only
    refine ⟨by omega,by omega,?_,hS2⟩
    rw [dR _ _ _ _ (by simp;omega),← hf,hrg,Ly hne]
   ·dsimp only;omega
  ·have law := Hg w s false hS
   have hfull : (u, c) = Cz ts pts (s, false) := by
    rw [hf,List.take_of_length_le (by simp;omega)]; rfl
   rw [← hfull] at law
   (refine bE (u,c) (Le.renA [(0,0)]) ?_ ?_)
   ·dsimp only
    refine ⟨hS2,fun h => ?_⟩
    rcases law.2 with ⟨e1,e2⟩ | ⟨e1,_⟩
    ·cases e1;exact e2
    ·dsimp only at e1;rw [h] at e1;cases e1
   ·dsimp only
    have hb : b = true := by assumption
    subst hb
    rcases law.2 with ⟨e1,e2⟩ | ⟨e1,e2⟩
    ·cases e1;simp
    ·dsimp only at e1 e2;subst e1;omega
 ·have hb : b = false := by assumption
  refine aS (Le.frzD (d := 2) (i := 0) rfl rfl) ?_
  refine aD rfl ⟨?_,(by (exact bB _ _))⟩
  simp only [aO]
  rw [FM hA (I3 w hS (hC hb))]
theorem sY (ts:List Int) (bd:List AL.Stmt) (pts:List Pnt) (B A:List Nat) (w:WG ts pts) (hB:uV ts pts B) (hA:qC ts pts A):PC Tryz.prog 108 [aG ts bd pts] (fun r => r = .imm pts.length (flat cN A)):=by
 have hpl := w.pl
 have htl := w.tl
 have hBl := hB.1
 have hsm : ∀ z : Nat, Sm B[z]! := by
  intro z
  by_cases hz : z < pts.length
  ·refine ⟨Nat.lt_of_lt_of_le (Nat.lt_pow_two_of_testBit _ (n := 6) fun v hv => ?_) (by decide)⟩
   cases hq : B[z]!.testBit v with
   | false => rfl
   | true => have := qM w ((hB.2 z hz v).1 hq);dsimp only at this;omega
  ·rw [getElem!_neg B z (by rw [hBl]; exact hz)]; exact ⟨by decide⟩
 refine aC Tryz.func108 Tryz.ntmps108 ?_
 repeat' (first|(apply aF;(apply aA (k := 188);rfl;(apply I2 <;> (assumption));exact Pur.pf;rfl))|refine aE ?_|fail)
 refine AW.le ?_ (Le.nilOwn (d := 4) 1 rfl (by decide))
 refine aH (σ := Nat × List Nat) [0,3,12] [] (fun k => [(13,iv (k.1 : Int)),(4,.own 0 0 k.1 1)]) (fun k => [(0,some (flat cN k.2))]) (fun k => k.1 ≤ pts.length ∧ k.2 = (List.range k.1).map (Lf pts B)) (fun k => pts.length - k.1) (0,[]) ⟨by omega,rfl⟩ ?_
 rintro ⟨k,u⟩ ⟨hk,hu⟩
 dsimp only at hk hu ⊢
 have hul : u.length = k := by rw [hu]; simp
 repeat' (first|(apply aF;first|(apply aJ (t := _);rfl;rfl;rfl;exact (rfl:_=some [_]);rfl;rfl)|(apply aA (k := 189);rfl;(apply E8 <;> (first|assumption|omega));exact Pur.pf;rfl))|refine aE ?_|(refine aK ?_ ?_ <;> intro hc hq <;> try (exfalso;omega))|fail)
 ·(refine bE (k + 1, _) (Le.renA [(0, 2)]) ?_ ?_)
  ·dsimp only
   refine ⟨by omega,?_⟩
   rw [hu,List.range_succ,List.map_append]; rfl
  ·dsimp only;omega
 ·refine aS (Le.frzD (d := 2) (i := 0) rfl rfl) ?_
  refine aD rfl ⟨?_,(by (exact bB _ _))⟩
  simp only [aO]
  have hkn : k = pts.length := by omega
  subst hkn
  rw [y0 hA (Bu w hB),hu]
theorem gD (A:Nat) (hA:Sm A):PC Tryz.prog 120 [iv (A:Int)] (fun r => r = sl cI (a8 A)):=by
 refine aC Tryz.func120 Tryz.ntmps120 ?_
 repeat' (first|refine aE ?_|fail)
 refine AW.le ?_ (Le.nilOwn (d := 3) 1 rfl (by decide))
 refine aH (σ := Nat × List Int × Nat) [0] [] (fun k => [(4,iv (k.1 : Int)),(3,.own 0 0 k.2.2 1)]) (fun k => [(0,some (flat cI k.2.1))]) (fun k => k.1 ≤ 62 ∧ k.2.1 = ((List.range k.1).filter (A.testBit ·)).map (fun v : Nat => (v : Int)) ∧ k.2.2 = k.2.1.length ∧ k.2.2 ≤ k.1) (fun k => 62 - k.1) (0,[],0) ⟨by omega,rfl,rfl,Nat.le_refl _⟩ ?_
 rintro ⟨k,u,m⟩ ⟨hk,hu,hm,hmk⟩
 dsimp only at hk hu hm hmk ⊢
 repeat' (first|(apply aF;(apply aJ (t := _);rfl;rfl;rfl;exact (rfl:_=some [_]);rfl;rfl))|refine aE ?_|(refine aK ?_ ?_ <;> intro hc hq <;> try (exfalso;omega))|fail)
 ·have hlt := Fg hA (show 0 < ((A >>> k : Nat) : Int) by assumption)
  (refine bE (k + 1,_,_) (Le.renA [(0,2)]) ?_ ?_)
  ·dsimp only
   exact ⟨by omega,y8 hq hu,by simp;omega,by omega⟩
  ·dsimp only;omega
 ·have hlt := Fg hA (show 0 < ((A >>> k : Nat) : Int) by assumption)
  (refine bE (k + 1,u,m) (Le.renA [(0,0)]) ?_ ?_)
  ·dsimp only
   exact ⟨by omega,yY hq hu,hm,by omega⟩
  ·dsimp only;omega
 ·(refine aS (Le.frzD (d := 2) (i := 0) rfl rfl) ?_; refine aD rfl ?_)
  refine ⟨?_,(by (exact bB _ _))⟩
  simp only [aO,sl]
  rw [sD (k := k) (fun v hv => HP hq v hv) (by omega) hA,← hu,← hm]
theorem lT (A:Nat) (hA:Sm A):PC Tryz.prog 76 [.v (.int .u64 (A:Int))] (fun r => r = sl cI (a8 A)):=by
 refine aC Tryz.func76 Tryz.ntmps76 ?_
 repeat' (first|refine aE ?_|fail)
 refine AW.le ?_ (Le.nilOwn (d := 3) 1 rfl (by decide))
 refine aH (σ := Nat × List Int × Nat) [0] [] (fun k => [(5,iv (k.1 : Int)),(3,.own 0 0 k.2.2 1)]) (fun k => [(0,some (flat cI k.2.1))]) (fun k => k.1 ≤ 64 ∧ k.2.1 = ((List.range k.1).filter (A.testBit ·)).map (fun v : Nat => (v : Int)) ∧ k.2.2 = k.2.1.length ∧ k.2.2 ≤ k.1) (fun k => 64 - k.1) (0,[],0) ⟨by omega,rfl,rfl,Nat.le_refl _⟩ ?_
 rintro ⟨k,u,m⟩ ⟨hk,hu,hm,hmk⟩
 dsimp only at hk hu hm hmk ⊢
 repeat' (first|(apply aF;(apply aJ (t := _);rfl;rfl;rfl;exact (rfl:_=some [_]);rfl;rfl))|refine aE ?_|(refine aK ?_ ?_ <;> intro hc hq <;> try (exfalso;omega))|fail)
 ·(refine bE (k + 1, _, _) (Le.renA [(0, 2)]) ?_ ?_)
  ·dsimp only
   exact ⟨by omega,y8 hq hu,by simp;omega,by omega⟩
  ·dsimp only;omega
 ·(refine bE (k + 1, u, m) (Le.renA [(0, 0)]) ?_ ?_)
  ·dsimp only
   exact ⟨by omega,yY hq hu,hm,by omega⟩
  ·dsimp only;omega
 ·(refine aS (Le.frzD (d := 2) (i := 0) rfl rfl) ?_; refine aD rfl ?_)
  refine ⟨?_,(by (exact bB _ _))⟩
  simp only [aO,sl]
  rw [sD (k := k) (fun v hv => Nat.testBit_lt_two_pow (Nat.lt_of_lt_of_le hA.pf (Nat.pow_le_pow_right (by decide) (by omega)))) (by omega) hA,← hu,← hm]
theorem CQ (ts:List Int) (bd:List AL.Stmt) (pts:List Pnt) (V:Nat) (w:WG ts pts) (hV:Sm V):PC Tryz.prog 235 [aG ts bd pts,iv (V:Int)] (fun r => r = .v (.int .u64 (s9 pts V:Nat))):=by
 have hpl := w.pl
 have htl := w.tl
 refine aC Tryz.func235 Tryz.ntmps235 ?_
 repeat' (first|refine aE ?_|fail)
 refine aH (σ := Nat × Nat) [1,11,12] [] (fun k => [(13,iv (k.1 : Int)),(5,.v (.int .u64 (k.2 : Int)))]) (fun k => []) (fun k => k.1 ≤ pts.length ∧ k.2 = fJ (fun l => bW pts[l]! && V.testBit (pts[l]!.y.toNat)) k.1) (fun k => pts.length - k.1) (0,0) ⟨by omega,rfl⟩ ?_
 rintro ⟨k,A⟩ ⟨hk,hA⟩
 dsimp only at hk hA ⊢
 have hsm : Sm A := hA ▸ bY (by omega)
 cases hln : bW pts[k]!
 ·repeat' (first | (apply aF; (apply aA (k := 233);rfl;(apply jW);exact Pur.pf;rfl)) | refine aE ?_ | (refine aK ?_ ?_ <;> intro hc hq <;> try (exfalso; omega)) | refine dC ?_|fail)
  ·(refine bE (k + 1, A) (Le.renA []) ?_ ?_)
   ·dsimp only
    exact ⟨by omega,by rw [hA]; exact mW _ _ (by rw [hln]; rfl)⟩
   ·dsimp only;omega
  ·(refine ⟨?_, rfl⟩; simp only [aO, AV.v.injEq, Value.bool.injEq, Value.int.injEq, true_and])
   rw [hA,show k = pts.length by omega]; rfl
 ·have hy := fun (h : k < pts.length) => mG w h hln
  repeat' (first|(apply aF;first|(apply g6;rfl;rfl;infer_instance;omega;rfl;(case' kk => intro hsm))|(apply aA (k := 233);rfl;(apply jW);exact Pur.pf;rfl))|refine aE ?_|(refine aK ?_ ?_ <;> intro hc hq <;> try (exfalso;omega))|refine dC ?_|fail)
  ·(refine bE (k + 1, _) (Le.renA []) ?_ ?_)
   ·dsimp only
    exact ⟨by omega,by rw [hA]; exact sZ _ _ (by rw [hln,Bool.true_and]; exact (nD _ _).1 hq)⟩
   ·dsimp only;omega
  ·(refine bE (k + 1, A) (Le.renA []) ?_ ?_)
   ·dsimp only
    exact ⟨by omega,by rw [hA]; exact mW _ _ (by rw [hln,Bool.true_and]; cases hb : V.testBit (pts[k]!.y.toNat) with|false => rfl|true => exact absurd ((nD _ _).2 hb) hq)⟩
   ·dsimp only;omega
  ·(refine ⟨?_, rfl⟩; simp only [aO, AV.v.injEq, Value.bool.injEq, Value.int.injEq, true_and])
   rw [hA,show k = pts.length by omega]; rfl
theorem wY (ts:List Int) (bd:List AL.Stmt) (pts:List Pnt) (A:List Nat) (w:WG ts pts) (hA:oK ts pts A):PC Tryz.prog 184 [aG ts bd pts] (fun r => r = .imm pts.length (flat cW A)):=by
 have hpl := w.pl
 have hp0 := w.p0
 have htl := w.tl
 have fl := Rk w
 refine aC Tryz.func184 Tryz.ntmps184 ?_
 repeat' (first|refine aE ?_|fail)
 refine aH (σ := List Nat × Bool) [0,3] [] (fun s => [(4,bv s.2)]) (fun s => [(0,some (flat cW s.1))]) (fun s => SG pts (Qt ts pts) s.1 ∧ (s.2 = false → lP oY (Ar ts pts) pts s.1)) (fun s => 2 * eZ (s.1.map (fun a => 2 ^ pts.length - a)) + s.2.toNat) (List.replicate pts.length 0,true) ⟨Er fun i hi => ⟨Nat.pow_pos (by decide),fun v h => by simp at h⟩,fun h => by cases h⟩ ?_
 rintro ⟨s,b⟩ ⟨hS,hC⟩
 dsimp only at hS hC ⊢
 repeat' (first|refine aE ?_|(refine aK ?_ ?_ <;> intro hc hq <;> try (exfalso;omega))|fail)
 ·refine aH (σ := Nat × (List Nat × Bool)) [0, 3, 20, 21] [] (fun k => [(22, iv (k.1 : Int)), (4, bv k.2.2)]) (fun k => [(0, some (flat cW k.2.1))]) (fun k => k.1 ≤ pts.length ∧ k.2 = (List.range k.1).foldl (A1 oY (Ar ts pts) pts) (s, false) ∧ SG pts (Qt ts pts) k.2.1) (fun k => pts.length - k.1) (0, (s, false)) ⟨by omega, rfl, hS⟩ ?_
  rintro ⟨k,u,c⟩ ⟨hk,hf,hS2⟩
  dsimp only at hk hf hS2 ⊢
  have hul := hS2.1
  by_cases hkn : k < pts.length
  ·have hst := (w.set k hkn).1
   have hsm : ∀ z : Nat, Sm u[z]! := by
    intro z
    by_cases hz : z < pts.length
    ·exact ⟨Nat.lt_of_lt_of_le (hS2.2 z hz).1 (Nat.pow_le_pow_right (by decide) (by omega))⟩
    ·rw [getElem!_neg u z (by rw [hul]; exact hz)]; exact ⟨by decide⟩
   have hs1 : Sm (wS ts pts[k]! [2]) := bY (by omega)
   have hs2 : Sm (iT pts[k]!) := tG (by omega)
   have hs3 : ∀ V,Sm (s9 pts V) := fun V => IA w V
   have hnl := w.nl k hkn
   have e1 : bW pts[k]! = true → iW u[k]! (s9 pts (wS ts pts[k]! [2] ||| iT pts[k]!)) ||| 2 ^ (k : Int).toNat = Ar ts pts k u[k]! := fun h => by unfold Ar Om;rw [if_pos h]; rfl
   have e0 : bW pts[k]! = false → iW u[k]! (s9 pts (wS ts pts[k]! [2] ||| iT pts[k]!)) = Ar ts pts k u[k]! := fun h => by unfold Ar Om;rw [if_neg (by rw [h]; simp),Nat.or_zero]
   have hps : Sm (Ar ts pts k u[k]!) := ⟨Nat.lt_of_lt_of_le (C8 w hkn (hS2.2 k hkn).1) (Nat.pow_le_pow_right (by decide) (by omega))⟩
   repeat' (first|(apply aF;first|(apply g6;rfl;rfl;infer_instance;omega;rfl;(case' kk => intro hsm))|(first|(apply aA (k := 142);rfl;(apply tU <;> (assumption));exact Pur.pf;rfl)|(apply aA (k := 182);rfl;(apply pF <;> (omega));exact Pur.pf;rfl)|(apply aA (k := 233);rfl;(apply jW);exact Pur.pf;rfl)|(apply aA (k := 235);rfl;(apply CQ <;> (first|assumption|infer_instance));exact Pur.pf;rfl)))|refine aE ?_|(refine aK ?_ ?_ <;> intro hc hq <;> try (exfalso;omega))|refine bQ ?_|fail)
   all_goals first|rw [e1 (by assumption)]|rw [e0 (by assumption)]
   all_goals
    refine aH (σ := Nat × (List Nat × Bool)) [0,3,7,20,21,22,47,48] [] (fun j => [(49,iv (j.1 : Int)),(4,bv j.2.2)]) (fun j => [(0,some (flat cW j.2.1))]) (fun j => j.1 ≤ pts[k]!.next.length ∧ j.2 = ((w8 pts k).take j.1).foldl (lK oY (Ar ts pts k u[k]!)) (u,c) ∧ SG pts (Qt ts pts) j.2.1) (fun j => pts[k]!.next.length - j.1) (0,(u,c)) ⟨by omega,rfl,hS2⟩ ?_
    rintro ⟨j,u2,c2⟩ ⟨hj,hf2,hS3⟩
    dsimp only at hj hf2 hS3 ⊢
    have hul2 := hS3.1
    have hsm2 : ∀ z : Nat, Sm u2[z]! := by
     intro z
     by_cases hz : z < pts.length
     ·exact ⟨Nat.lt_of_lt_of_le (hS3.2 z hz).1 (Nat.pow_le_pow_right (by decide) (by omega))⟩
     ·rw [getElem!_neg u2 z (by rw [hul2]; exact hz)]; exact ⟨by decide⟩
    have hz : j < pts[k]!.next.length → 0 ≤ pts[k]!.next[j]! ∧ pts[k]!.next[j]! < pts.length := fun h => w.nx k hkn _ (aW _ _ h)
    repeat' (first|refine aE ?_|(refine aK ?_ ?_ <;> intro hc hq <;> try (exfalso;omega))|refine bQ ?_|fail)
    ·have hzz := hz (by omega)
     have hed : cY pts k (pts[k]!.next[j]!).toNat := ⟨hkn,by rw [Int.toNat_of_nonneg hzz.1]; exact aW _ _ (by omega)⟩
     have hne : oY u2[(pts[k]!.next[j]!).toNat]! (Ar ts pts k u[k]!) ≠ u2[(pts[k]!.next[j]!).toNat]! := fun h => hq (congrArg Int.ofNat h)
     (refine bE (j + 1,(_,true)) (Le.renA [(0,0)]) ?_ ?_)
     ·dsimp only
      refine ⟨by omega,?_,Aw fl w (hS2.2 k hkn) hed hS3⟩
      rw [jK (by omega),← hf2,A6 hne]
     ·dsimp only;omega
    ·have hzz := hz (by omega)
     have hne : oY u2[(pts[k]!.next[j]!).toNat]! (Ar ts pts k u[k]!) = u2[(pts[k]!.next[j]!).toNat]! := Int.ofNat.inj hq
     (refine bE (j + 1,(u2,c2)) (Le.renA [(0,0)]) ?_ ?_)
     ·dsimp only
      refine ⟨by omega,?_,hS3⟩
      rw [jK (by omega),← hf2,zX hne]
     ·dsimp only;omega
    ·(refine bE (k + 1, (u2, c2)) (Le.renA [(0, 0)]) ?_ ?_)
     ·dsimp only
      refine ⟨by omega,?_,hS3⟩
      rw [eS,← hf,hf2,List.take_of_length_le (by rw [lZ]; omega)]; rfl
     ·dsimp only;omega
  ·repeat' (first | refine aE ?_ | (refine aK ?_ ?_ <;> intro hc hq <;> try (exfalso; omega))|fail)
   have law := w4 w fl s false hS
   have hfull : (u, c) = zM oY (Ar ts pts) pts (s, false) := by
    rw [hf,show k = pts.length by omega]; rfl
   rw [← hfull] at law
   (refine bE (u,c) (Le.renA [(0,0)]) ?_ ?_)
   ·dsimp only
    refine ⟨hS2,fun h => ?_⟩
    rcases law.2 with ⟨e1,e2⟩ | ⟨e1,_⟩
    ·cases e1;exact e2
    ·dsimp only at e1;rw [h] at e1;cases e1
   ·dsimp only
    have hb : b = true := by assumption
    subst hb
    rcases law.2 with ⟨e1,e2⟩ | ⟨e1,e2⟩
    ·cases e1;simp
    ·dsimp only at e1 e2;subst e1;omega
 ·have hb : b = false := by assumption
  refine aS (Le.frzD (d := 2) (i := 0) rfl rfl) ?_
  refine aD rfl ⟨?_,(by (exact bB _ _))⟩
  simp only [aO]
  rw [Gm hA (J9 w hS (hC hb))]
theorem Du (ts:List Int) (bd:List AL.Stmt) (pts:List Pnt) (i:Int) (f:List Nat) (w:WG ts pts) (hi:0 ≤ i ∧ i < pts.length) (hf:f.length = 6) (hs:∀ z:Nat,Sm f[z]!):PC Tryz.prog 183 [aG ts bd pts,iv i,.agg (flat cW f)] (fun r => r = .agg (flat cW (Bb ts pts i.toNat f))):=by
 have hpl := w.pl
 have htl := w.tl
 have hin : i.toNat < pts.length := by omega
 have hst := (w.set i.toNat hin)
 have hy := w.y i.toNat hin
 have hbl := cJ (wS ts pts[i.toNat]! [2])
 have hT : Sm (wS ts pts[i.toNat]! [2]) := bY (by omega)
 refine aC Tryz.func183 Tryz.ntmps183 ?_
 repeat' (first|(apply aF;(first|(apply aA (k := 120);rfl;(apply gD <;> (assumption));(rfl);rfl)|(apply aA (k := 142);rfl;(apply tU <;> (assumption));exact Pur.pf;rfl)))|refine aE ?_|fail)
 refine aH (σ := Nat × List Nat) [0,1,5,6,7,8,23,24] [0,1,2] (fun k => [(25,iv (k.1 : Int))]) (fun k => [(3,some (flat cW k.2))]) (fun k => k.1 ≤ (a8 (wS ts pts[i.toNat]! [2])).length ∧ k.2 = oR ((a8 (wS ts pts[i.toNat]! [2])).take k.1) f ∧ k.2.length = 6) (fun k => (a8 (wS ts pts[i.toNat]! [2])).length - k.1) (0,f) ⟨by omega,rfl,hf⟩ ?_
 rintro ⟨k,u⟩ ⟨hk,hu,hul⟩
 dsimp only at hk hu hul ⊢
 have hbb : k < (a8 (wS ts pts[i.toNat]! [2])).length → 0 ≤ (a8 (wS ts pts[i.toNat]! [2]))[k]! ∧ (a8 (wS ts pts[i.toNat]! [2]))[k]! < ts.length := fun h => gY (y9 (fun v => decide (aP ts pts[i.toNat]! v ∈ [2])) ts.length) h
 have husm : ∀ z : Nat,Sm u[z]! := by intro z;rw [hu]; exact Oe hs z
 have hset : ∀ (k a : Nat) [Sm a] (z : Nat),Sm (u.set k a)[z]! := fun k a h z => DO husm h z
 have hset2 : ∀ (k a k2 a2 : Nat) [Sm a] [Sm a2] (z : Nat),Sm ((u.set k a).set k2 a2)[z]! := fun k a k2 a2 h h2 z => DO (DO husm h) h2 z
 by_cases hkn : k < (a8 (wS ts pts[i.toNat]! [2])).length
 ·have hbk := hbb hkn
  repeat' (first|refine aE ?_|(refine aK ?_ ?_ <;> intro hc hq <;> try (exfalso;omega))|fail)
  (refine bE (k + 1,u.set ((a8 (wS ts pts[i.toNat]! [2]))[k]!).toNat 0) (Le.renA [(0,0),(1,1),(2,2),(3,3)]) ?_ ?_)
  ·dsimp only
   exact ⟨by omega,by rw [FG hkn,← hu],by simpa using hul⟩
  ·dsimp only;omega
 ·have hu' : u = oR (a8 (wS ts pts[i.toNat]! [2])) f := by rw [hu, List.take_of_length_le (by omega)]
  cases hln : bW pts[i.toNat]!
  ·repeat' (first | (apply aF; (first | (apply aA (k := 143);rfl;(apply zJ);exact Pur.pf;rfl) | (apply aA (k := 233);rfl;(apply jW);exact Pur.pf;rfl))) | refine aE ?_ | (refine aK ?_ ?_ <;> intro hc hq <;> try (exfalso; omega)) | refine bQ ?_|fail)
   all_goals (refine aD (iB (z := 6) rfl rfl (by first|exact hul|(simp only [List.length_set]; exact hul)) (by decide)) ⟨?_,(by (exact bB _ _))⟩)
   all_goals simp only [aO,Bb,← hu',hln,Bool.false_eq_true,false_and,false_or,if_false]
   all_goals congr 2
   all_goals grind
  ·have hop := fZ hln
   repeat' (first|(apply aF;first|(apply g6;rfl;rfl;infer_instance;omega;rfl;(case' kk => intro hsm))|(first|(apply aA (k := 143);rfl;(apply zJ);exact Pur.pf;rfl)|(apply aA (k := 233);rfl;(apply jW);exact Pur.pf;rfl)|(apply aA (k := 234);rfl;(apply qQ);(rfl);rfl)))|refine aE ?_|(refine aK ?_ ?_ <;> intro hc hq <;> try (exfalso;omega))|(refine bS ?_ ?_ <;> intro hg hq <;> try (exfalso;omega))|refine bQ ?_|fail)
   all_goals (refine aD (iB (z := 6) rfl rfl (by first|exact hul|(simp only [List.length_set]; exact hul)) (by decide)) ⟨?_,(by (exact bB _ _))⟩)
   all_goals simp only [aO,Bb,← hu',hln,true_and,if_true]
   all_goals congr 2
   all_goals grind
theorem yI (ts:List Int) (bd:List AL.Stmt) (pts:List Pnt) (A:List Nat) (w:WG ts pts) (hA:qX ts pts A):PC Tryz.prog 104 [aG ts bd pts] (fun r => r = .imm pts.length (flat cW A)):=by
 have hpl := w.pl
 have hp0 := w.p0
 have htl := w.tl
 refine aC Tryz.func104 Tryz.ntmps104 ?_
 repeat' (first|refine aE ?_|fail)
 refine aH (σ := List Nat × Bool) [0,3] [] (fun s => [(4,bv s.2)]) (fun s => [(0,some (flat cW s.1))]) (fun s => SF ts pts s.1 ∧ (s.2 = false → zS ts pts s.1)) (fun s => 2 * eZ (s.1.map (fun x => 2 ^ pts.length - x)) + s.2.toNat) (List.replicate (pts.length * 6) 0,true) ⟨N4,fun h => by cases h⟩ ?_
 rintro ⟨s,b⟩ ⟨hS,hC⟩
 dsimp only at hS hC ⊢
 repeat' (first|refine aE ?_|(refine aK ?_ ?_ <;> intro hc hq <;> try (exfalso;omega))|fail)
 ·refine aH (σ := Nat × (List Nat × Bool)) [0, 3, 22, 23] [] (fun k => [(24, iv (k.1 : Int)), (4, bv k.2.2)]) (fun k => [(0, some (flat cW k.2.1))]) (fun k => k.1 ≤ pts.length ∧ k.2 = (List.range k.1).foldl (D4 ts pts) (s, false) ∧ SF ts pts k.2.1) (fun k => pts.length - k.1) (0, (s, false)) ⟨by omega, rfl, hS⟩ ?_
  rintro ⟨i,u,c⟩ ⟨hk,hf,hS2⟩
  dsimp only at hk hf hS2 ⊢
  have hul := hS2.1
  have hsm : ∀ z : Nat,Sm u[z]! := NF w hS2
  by_cases hin : i < pts.length
  ·have hnl := w.nl i hin
   have hrl : ((u.drop (i * 6)).take 6).length = 6 := eQ hul hin
   have hrs : ∀ z : Nat, Sm ((u.drop (i * 6)).take 6)[z]! := by
    intro z
    by_cases hz : z < 6
    ·have := dS hul hin hz;unfold cH at this;rw [this]; exact hsm _
    ·rw [getElem!_neg _ z (by rw [hrl]; exact hz)]; exact ⟨by decide⟩
   have hcl : (Bb ts pts (i : Int).toNat ((u.drop (i * 6)).take 6)).length = 6 := (MB ts pts i ((u.drop (i * 6)).take 6)).trans hrl
   repeat' (first|(apply aF;(apply aA (k := 183);rfl;(apply Du <;> (first|assumption|omega));exact Pur.pf;rfl))|refine aE ?_|(refine aK ?_ ?_ <;> intro hc hq <;> try (exfalso;omega))|fail)
   generalize hcf : Bb ts pts (i : Int).toNat ((u.drop (i * 6)).take 6) = a at hcl
   have hcf' : Bb ts pts i (cH u i) = a := hcf
   have hasnd : ∀ k,cY pts i k → ∀ v,v < 6 → QA ts pts k v a[v]! := fun k e v hv => by rw [← hcf']; exact Fz w hS2 e hv
   refine aH (σ := Nat × (List Nat × Bool)) [0,3,7,22,23,24,37,38] [2] (fun j => [(39,iv (j.1 : Int)),(4,bv j.2.2)]) (fun j => [(0,some (flat cW j.2.1))]) (fun j => j.1 ≤ pts[i]!.next.length ∧ j.2 = ((w8 pts i).take j.1).foldl (xJ a) (u,c) ∧ SF ts pts j.2.1) (fun j => pts[i]!.next.length - j.1) (0,(u,c)) ⟨by omega,rfl,hS2⟩ ?_
   rintro ⟨j,u2,c2⟩ ⟨hj,hf2,hS3⟩
   dsimp only at hj hf2 hS3 ⊢
   have hul2 := hS3.1
   by_cases hjn : j < pts[i]!.next.length
   ·have hzz : 0 ≤ pts[i]!.next[j]! ∧ pts[i]!.next[j]! < pts.length := w.nx i hin _ (aW _ _ hjn)
    have hed : cY pts i (pts[i]!.next[j]!).toNat := ⟨hin,by rw [Int.toNat_of_nonneg hzz.1]; exact aW _ _ hjn⟩
    have hap := hasnd _ hed
    have hasm : ∀ z : Nat, Sm a[z]! := by
     intro z
     by_cases hz : z < 6
     ·exact ⟨Nat.lt_of_lt_of_le (hap z hz).1 (Nat.pow_le_pow_right (by decide) (by omega))⟩
     ·rw [getElem!_neg a z (by rw [hcl]; exact hz)]; exact ⟨by decide⟩
    repeat' (first|refine aE ?_|(refine aK ?_ ?_ <;> intro hc hq <;> try (exfalso;omega))|fail)
    refine aH (σ := Nat × (List Nat × Bool)) [0,3,7,9,22,23,24,37,38,39,43] [2] (fun v => [(44,iv (v.1 : Int)),(4,bv v.2.2)]) (fun v => [(0,some (flat cW v.2.1))]) (fun v => v.1 ≤ 6 ∧ v.2 = (List.range v.1).foldl (rW a (pts[i]!.next[j]!).toNat) (u2,c2) ∧ SF ts pts v.2.1) (fun v => 6 - v.1) (0,(u2,c2)) ⟨by omega,rfl,hS3⟩ ?_
    rintro ⟨v,u3,c3⟩ ⟨hv,hf3,hS4⟩
    dsimp only at hv hf3 hS4 ⊢
    have hul3 := hS4.1
    have hsm3 : ∀ z : Nat,Sm u3[z]! := NF w hS4
    by_cases hvn : v < 6
    ·have hlaw := CB (c9 w hed) hap u3 c3 v hvn hS4
     repeat' (first|refine aE ?_|(refine aK ?_ ?_ <;> intro hc hq <;> try (exfalso;omega))|refine bQ ?_|fail)
     ·have hne : oY u3[(pts[i]!.next[j]!).toNat * 6 + v]! a[v]! ≠ u3[(pts[i]!.next[j]!).toNat * 6 + v]! := fun h => hq (congrArg Int.ofNat h)
      have e1 : rW a (pts[i]!.next[j]!).toNat (u3,c3) v = (u3.set ((pts[i]!.next[j]!).toNat * 6 + v) (oY u3[(pts[i]!.next[j]!).toNat * 6 + v]! a[v]!),true) := A6 hne
      rw [e1] at hlaw
      (refine bE (v + 1,(_,true)) (Le.renA [(0,0),(2,2)]) ?_ ?_)
      ·dsimp only
       refine ⟨by omega,?_,hlaw.1⟩
       rw [x4,← hf3,e1]; rfl
      ·dsimp only;omega
     ·have hne : oY u3[(pts[i]!.next[j]!).toNat * 6 + v]! a[v]! = u3[(pts[i]!.next[j]!).toNat * 6 + v]! := Int.ofNat.inj hq
      have e1 : rW a (pts[i]!.next[j]!).toNat (u3,c3) v = (u3,c3) := zX hne
      (refine bE (v + 1,(u3,c3)) (Le.renA [(0,0),(2,2)]) ?_ ?_)
      ·dsimp only
       refine ⟨by omega,?_,hS4⟩
       rw [x4,← hf3,e1]
      ·dsimp only;omega
    ·have hv6 : v = 6 := by omega
     subst hv6
     repeat' (first|refine aE ?_|fail)
     (refine bE (j + 1,(u3,c3)) (Le.renA [(0,0),(2,2)]) ?_ ?_)
     ·dsimp only
      refine ⟨by omega,?_,hS4⟩
      rw [Ga hjn,← hf2,hf3]; rfl
     ·dsimp only;omega
   ·repeat' (first | refine aE ?_ | (refine aK ?_ ?_ <;> intro hc hq <;> try (exfalso; omega))|fail)
    (refine bE (i + 1,(u2,c2)) (Le.renA [(0,0)]) ?_ ?_)
    ·dsimp only
     refine ⟨by omega,?_,hS3⟩
     rw [eS,← hf,hf2,List.take_of_length_le (by rw [lZ]; omega),← hcf']; rfl
    ·dsimp only;omega
  ·repeat' (first | refine aE ?_ | (refine aK ?_ ?_ <;> intro hc hq <;> try (exfalso; omega))|fail)
   have law := JY w s false hS
   have hfull : (u, c) = HL ts pts (s, false) := by
    rw [hf,show i = pts.length by omega]; rfl
   rw [← hfull] at law
   (refine bE (u,c) (Le.renA [(0,0)]) ?_ ?_)
   ·dsimp only
    refine ⟨hS2,fun h => ?_⟩
    rcases law.2 with ⟨e1,e2⟩ | ⟨e1,_⟩
    ·cases e1;exact e2
    ·dsimp only at e1;rw [h] at e1;cases e1
   ·dsimp only
    have hb : b = true := by assumption
    subst hb
    rcases law.2 with ⟨e1,e2⟩ | ⟨e1,e2⟩
    ·cases e1;simp
    ·dsimp only at e1 e2;subst e1;omega
 ·have hb : b = false := by assumption
  refine aS (Le.frzD (d := 2) (i := 0) rfl rfl) ?_
  refine aD rfl ⟨?_,(by (exact bB _ _))⟩
  simp only [aO]
  rw [Hb hA (Iv w hS (hC hb))]
theorem Dv (ts:List Int) (bd:List AL.Stmt) (pts:List Pnt) (i:Int) (lv:Nat) (f:List Nat) (w:WG ts pts) (hi:0 ≤ i ∧ i < pts.length) (hlv:lv < 2 ^ ts.length) (hf:f.length = 6) (hs:∀ z:Nat,Sm f[z]!):PC Tryz.prog 186 [aG ts bd pts,iv i,iv (lv:Int),.agg (flat cW f)] (fun r => r = .v (.int .u64 (k8 ts pts[i.toNat]! lv f:Nat))):=by
 have hpl := w.pl
 have htl := w.tl
 have hin : i.toNat < pts.length := by omega
 have hst := (w.set i.toNat hin)
 have hsl : Sm lv := ⟨Nat.lt_of_lt_of_le hlv (Nat.pow_le_pow_right (by decide) (by omega))⟩
 have hT : Sm (wS ts pts[i.toNat]! [2]) := bY (by omega)
 have hB : Sm (iT pts[i.toNat]!) := tG (by omega)
 have hbl := cJ (iW lv (wS ts pts[i.toNat]! [2] ||| iT pts[i.toNat]!))
 have hlt : iW lv (wS ts pts[i.toNat]! [2] ||| iT pts[i.toNat]!) < 2 ^ ts.length := Nat.xor_lt_two_pow hlv (Nat.lt_of_le_of_lt Nat.and_le_left hlv)
 refine aC Tryz.func186 Tryz.ntmps186 ?_
 repeat' (first|(apply aF;(first|(apply aA (k := 120);rfl;(apply gD <;> (infer_instance));(rfl);rfl)|(apply aA (k := 142);rfl;(apply tU <;> (assumption));exact Pur.pf;rfl)|(apply aA (k := 182);rfl;(apply pF <;> (omega));exact Pur.pf;rfl)))|refine aE ?_|refine bQ ?_|fail)
 refine aH (σ := Nat × Nat) [7,28,29] [0] (fun k => [(30,iv (k.1 : Int)),(10,.v (.int .u64 (k.2 : Int)))]) (fun k => []) (fun k => k.1 ≤ (a8 (iW lv (wS ts pts[i.toNat]! [2] ||| iT pts[i.toNat]!))).length ∧ k.2 = Qq f ((a8 (iW lv (wS ts pts[i.toNat]! [2] ||| iT pts[i.toNat]!))).take k.1) 0 ∧ Sm k.2) (fun k => (a8 (iW lv (wS ts pts[i.toNat]! [2] ||| iT pts[i.toNat]!))).length - k.1) (0,0) ⟨by omega,rfl,inferInstance⟩ ?_
 rintro ⟨k,a⟩ ⟨hk,ha,hsa⟩
 dsimp only at hk ha hsa ⊢
 have hbb : k < (a8 (iW lv (wS ts pts[i.toNat]! [2] ||| iT pts[i.toNat]!))).length → 0 ≤ (a8 (iW lv (wS ts pts[i.toNat]! [2] ||| iT pts[i.toNat]!)))[k]! ∧ (a8 (iW lv (wS ts pts[i.toNat]! [2] ||| iT pts[i.toNat]!)))[k]! < ts.length := fun h => gY hlt h
 repeat' (first|refine aE ?_|(refine aK ?_ ?_ <;> intro hc hq <;> try (exfalso;omega))|fail)
 ·(refine bE (k + 1, _) (Le.renA [(0, 0)]) ?_ ?_)
  ·dsimp only
   refine ⟨by omega,?_,inferInstance⟩
   rw [ha]; unfold Qq;rw [dR _ _ _ _ (by omega)]
  ·dsimp only;omega
 ·refine aD rfl ⟨?_, rfl⟩
  simp only [aO]
  rw [ha,List.take_of_length_le (by omega)]; rfl
theorem D8 (ts:List Int) (bd:List AL.Stmt) (pts:List Pnt) (x:Pnt) (mb:Nat) (htl:ts.length ≤ 6) (hmb:Sm mb) (hst:aM x < ts.length) (hy:0 ≤ x.y ∧ (3 ≤ x.op → x.op ≤ 7 → x.y < ts.length)):PC Tryz.prog 236 [aG ts bd pts,dY x,iv (mb:Int)] (fun r => r = sl F7 (fS ts x (mb.testBit (aM x).toNat))):=by
 refine aC Tryz.func236 Tryz.ntmps236 ?_
 repeat' (first|(apply aF;first|(apply fT (d := 7) (e := 2);rfl;rfl)|(first|(apply aA (k := 143);rfl;(apply zJ);exact Pur.pf;rfl)|(apply aA (k := 199);rfl;(apply z7 <;> (omega));exact Pur.pf;rfl)))|refine aE ?_|(refine aK ?_ ?_ <;> intro hc hq <;> try (exfalso;omega))|(refine bS ?_ ?_ <;> intro hg hq <;> try (exfalso;omega))|fail)
 all_goals first|refine aS (Le.frzD (d := 6) (i := 1) rfl rfl) ?_|refine aS (Le.frzD (d := 6) (i := 3) rfl rfl) ?_|refine aS (Le.frzD (d := 6) (i := 5) rfl rfl) ?_
 all_goals refine aD rfl ⟨?_,(by (rfl))⟩
 all_goals simp only [aO,fS]
 all_goals have h1 := nD mb (aM x).toNat
 all_goals (try (rw [if_neg (show ¬ (0 ≤ aM x ∧ ts[(aM x).toNat]! = 2 ∧ mb.testBit (aM x).toNat = true) from fun h => by omega)]))
 all_goals (simp_all <;> rfl)
theorem rY (ts:List Int) (bd:List AL.Stmt) (pts:List Pnt) (i:Int) (mb loans:Nat) (w:WG ts pts) (hi:0 ≤ i ∧ i < pts.length) (hmb:Sm mb) (hlo:loans < 2 ^ pts.length):PC Tryz.prog 185 [aG ts bd pts,iv i,iv (mb:Int),.v (.int .u64 (loans:Int))] (fun r => r = .v (.int .u64 (Fu pts loans (fS ts pts[i.toNat]! (mb.testBit (aM pts[i.toNat]!).toNat)) 0:Nat))):=by
 have hpl := w.pl
 have htl := w.tl
 have hin : i.toNat < pts.length := by omega
 have hst := (w.set i.toNat hin).1
 have hy := w.y i.toNat hin
 have hx := w.x i.toNat hin
 have hop := w.op i.toNat hin
 have hlsm : Sm loans := ⟨Nat.lt_of_lt_of_le hlo (Nat.pow_le_pow_right (by decide) (by omega))⟩
 have hacc := tK (mb.testBit (aM pts[i.toNat]!).toNat) w hin
 have hal := pP ts pts[i.toNat]! (mb.testBit (aM pts[i.toNat]!).toNat)
 refine aC Tryz.func185 Tryz.ntmps185 ?_
 repeat' (first|(apply aF;(apply aA (k := 236);rfl;(apply D8 <;> (assumption));exact Pur.pf;rfl))|refine aE ?_|fail)
 generalize fS ts pts[i.toNat]! (mb.testBit (aM pts[i.toNat]!).toNat) = acs at hacc hal
 refine aH (σ := Nat × Nat) [0,3,23,24] [] (fun k => [(25,iv (k.1 : Int)),(9,.v (.int .u64 (k.2 : Int)))]) (fun k => []) (fun k => k.1 ≤ acs.length ∧ k.2 = Fu pts loans (acs.take k.1) 0 ∧ k.2 < 2 ^ pts.length) (fun k => acs.length - k.1) (0,0) ⟨by omega,rfl,Nat.pow_pos (by decide)⟩ ?_
 rintro ⟨k,a⟩ ⟨hk,ha,hab⟩
 dsimp only at hk ha hab ⊢
 by_cases hkn : k < acs.length
 ·have hcv := hacc _ (aW acs k hkn)
  have hof : ∀ V,Sm (s9 pts V) := fun V => IA w V
  have hll := cJ (loans &&& s9 pts (2 ^ (acs[k]!.var).toNat))
  have hlb : loans &&& s9 pts (2 ^ (acs[k]!.var).toNat) < 2 ^ pts.length := Nat.lt_of_le_of_lt Nat.and_le_left hlo
  have htk := dR (fun a c => M9 pts c.write (a8 (loans &&& s9 pts (2 ^ c.var.toNat))) a) acs 0 k hkn
  repeat' (first|(apply aF;first|(apply g6;rfl;rfl;infer_instance;omega;rfl;(case' kk => intro hsm))|(first|(apply aA (k := 76);rfl;(apply lT <;> (infer_instance));(rfl);rfl)|(apply aA (k := 235);rfl;(apply CQ <;> (assumption));exact Pur.pf;rfl)))|refine aE ?_|(refine aK ?_ ?_ <;> intro hc hq <;> try (exfalso;omega))|fail)
  refine aH (σ := Nat × Nat) [0,3,11,23,24,25,36,37] [0] (fun j => [(38,iv (j.1 : Int)),(9,.v (.int .u64 (j.2 : Int)))]) (fun j => []) (fun j => j.1 ≤ (a8 (loans &&& s9 pts (2 ^ (acs[k]!.var).toNat))).length ∧ j.2 = M9 pts acs[k]!.write ((a8 (loans &&& s9 pts (2 ^ (acs[k]!.var).toNat))).take j.1) a ∧ j.2 < 2 ^ pts.length) (fun j => (a8 (loans &&& s9 pts (2 ^ (acs[k]!.var).toNat))).length - j.1) (0,a) ⟨by omega,rfl,hab⟩ ?_
  rintro ⟨j,b⟩ ⟨hj,hb,hbb⟩
  dsimp only at hj hb hbb ⊢
  have hbsm : Sm b := ⟨Nat.lt_of_lt_of_le hbb (Nat.pow_le_pow_right (by decide) (by omega))⟩
  by_cases hjn : j < (a8 (loans &&& s9 pts (2 ^ (acs[k]!.var).toNat))).length
  ·have hlz := gY hlb hjn
   have hstep : M9 pts acs[k]!.write ((a8 (loans &&& s9 pts (2 ^ (acs[k]!.var).toNat))).take (j + 1)) a = if acs[k]!.write = true ∨ pts[((a8 (loans &&& s9 pts (2 ^ (acs[k]!.var).toNat)))[j]!).toNat]!.op = 5 then b ||| 2 ^ ((a8 (loans &&& s9 pts (2 ^ (acs[k]!.var).toNat)))[j]!).toNat else b := by
    rw [hb]; unfold M9;rw [dR _ _ _ _ hjn]
   have hb2 : b ||| 2 ^ ((a8 (loans &&& s9 pts (2 ^ (acs[k]!.var).toNat)))[j]!).toNat < 2 ^ pts.length := Nat.or_lt_two_pow hbb (Nat.pow_lt_pow_right (by decide) (by omega))
   repeat' (first|(apply aF;(apply g6;rfl;rfl;infer_instance;omega;rfl;(case' kk => intro hsm)))|refine aE ?_|(refine aK ?_ ?_ <;> intro hc hq <;> try (exfalso;omega))|(refine bS ?_ ?_ <;> intro hg hq <;> try (exfalso;omega))|fail)
   all_goals first
    | ((refine bE (j + 1, b ||| 2 ^ ((a8 (loans &&& s9 pts (2 ^ (acs[k]!.var).toNat)))[j]!).toNat) (Le.renA [(0, 0)]) ?_ ?_)
       ·dsimp only
        refine ⟨by omega,?_,hb2⟩
        rw [hstep,if_pos (by first|exact .inl (by assumption)|exact .inr (by assumption))]
       ·dsimp only;omega)
    | ((refine bE (j + 1, b) (Le.renA [(0, 0)]) ?_ ?_)
       ·dsimp only
        refine ⟨by omega,?_,hbb⟩
        rw [hstep,if_neg (fun h => h.elim (fun h1 => Bool.noConfusion (h1.symm.trans (by assumption : acs[k]!.write = false))) (fun h2 => absurd h2 (by assumption)))]
       ·dsimp only;omega)
  ·repeat' (first | refine aE ?_ | (refine aK ?_ ?_ <;> intro hc hq <;> try (exfalso; omega))|fail)
   (refine bE (k + 1,b) (Le.renA []) ?_ ?_)
   ·dsimp only
    refine ⟨by omega,?_,hbb⟩
    rw [hb,List.take_of_length_le (by omega),ha]; unfold Fu;rw [htk]
   ·dsimp only;omega
 ·repeat' (first | refine aE ?_ | (refine aK ?_ ?_ <;> intro hc hq <;> try (exfalso; omega))|fail)
  refine aD rfl ⟨?_,rfl⟩
  simp only [aO]
  rw [ha,List.take_of_length_le (by omega)]
end Go.Proofs.YtahdccneecdmmaaGreat
