/-
 A part of the proofs over this program: rules and contracts of its functions (the contracts).
-/
import Derived.Test.YtgkalkgplcdnkaaGreatW3A07
import Derived.Test.YtgkalkgplcdnkaaGreatRows
set_option linter.unusedVariables false
set_option linter.unusedSimpArgs false
set_option maxHeartbeats 8000000
set_option maxRecDepth 4000
attribute [local irreducible] Go.AL.RW Go.AL.AW Go.AL.Stop
namespace Go.Proofs.YtgkalkgplcdnkaaGreat
open Go.AL
theorem dZ (a b c:Int):PC Tryz.prog 55 [iv a,iv b,iv c] (fun r => r = bv (decide (b ≤ a) && decide (a ≤ c))):=by
 refine aC Tryz.func55 Tryz.ntmps55 ?_
 repeat' (first|refine aF ?_|(refine cE ?_ ?_ <;> intro hg hq <;> try (exfalso;omega))|refine dB ?_|fail)
 all_goals (refine ⟨?_,rfl⟩; simp only [aQ,AV.v.injEq,Value.bool.injEq,Value.int.injEq,true_and])
 all_goals grind
theorem v7 (t:Int):PC Tryz.prog 185 [iv t] (fun r => r = bv (iM t)):=by
 refine aC Tryz.func185 Tryz.ntmps185 ?_
 repeat' (first|refine aF ?_|(refine cE ?_ ?_ <;> intro hg hq <;> try (exfalso;omega))|refine dB ?_|fail)
 all_goals (refine ⟨?_,rfl⟩; simp only [aQ,AV.v.injEq,Value.bool.injEq,Value.int.injEq,true_and])
 all_goals grind [iM]
theorem D6 (t:Int):PC Tryz.prog 181 [iv t] (fun r => r = bv (iM t)):=by
 refine aC Tryz.func181 Tryz.ntmps181 ?_
 repeat' (first|refine aF ?_|(refine cE ?_ ?_ <;> intro hg hq <;> try (exfalso;omega))|refine dB ?_|fail)
 all_goals (refine ⟨?_,rfl⟩; simp only [aQ,AV.v.injEq,Value.bool.injEq,Value.int.injEq,true_and])
 all_goals grind [iM]
theorem zP (t:Int):PC Tryz.prog 210 [iv t] (fun r => r = bv (decide (t = 2) || iM t)):=by
 refine aC Tryz.func210 Tryz.ntmps210 ?_
 repeat' (first|(apply aH;(apply aA (k := 185);rfl;(apply v7);(rfl);rfl))|refine aF ?_|(refine cE ?_ ?_ <;> intro hg hq <;> try (exfalso;omega))|refine dB ?_|fail)
 all_goals (refine ⟨?_,rfl⟩; simp only [aQ,AV.v.injEq,Value.bool.injEq,Value.int.injEq,true_and])
 all_goals grind
theorem AM (t:Int):PC Tryz.prog 174 [iv t] (fun r => r = bv (decide (t = 9) || decide (t = 10))):=by
 refine aC Tryz.func174 Tryz.ntmps174 ?_
 repeat' (first|refine aF ?_|(refine cE ?_ ?_ <;> intro hg hq <;> try (exfalso;omega))|refine dB ?_|fail)
 all_goals (refine ⟨?_,rfl⟩; simp only [aQ,AV.v.injEq,Value.bool.injEq,Value.int.injEq,true_and])
 all_goals grind
theorem EE (ts:List Int) (v:Int):PC Tryz.prog 209 [sl cI ts,iv v] (fun r => r = iv (eK ts v)):=by
 refine aC Tryz.func209 Tryz.ntmps209 ?_
 repeat' (first|refine aF ?_|(refine aU ?_ ?_ <;> intro hc hq <;> try (exfalso;omega))|(refine cE ?_ ?_ <;> intro hg hq <;> try (exfalso;omega))|refine dB ?_|fail)
 all_goals (refine ⟨?_,rfl⟩; simp only [aQ,AV.v.injEq,Value.bool.injEq,Value.int.injEq,true_and])
 all_goals grind [eK]
theorem jM (ts:List Int) (v:Int) (hl:ts.length ≤ 1048576):PC Tryz.prog 56 [sl cI ts,iv v] (fun r => r = iv (eK ts v)):=by
 refine aC Tryz.func56 Tryz.ntmps56 ?_
 repeat' (first|(apply aH;(apply aA (k := 55);rfl;(apply dZ);(rfl);rfl))|refine aF ?_|(refine aU ?_ ?_ <;> intro hc hq <;> try (exfalso;omega))|refine dB ?_|fail)
 all_goals (refine ⟨?_,rfl⟩; simp only [aQ,AV.v.injEq,Value.bool.injEq,Value.int.injEq,true_and])
 all_goals grind [eK]
theorem Aq (ts:List Int) (s:AL.Stmt) (hl:bO ts = true):PC Tryz.prog 175 [sl cI ts,cA s] (fun r => r = bv (s.th.isEmpty && s.el.isEmpty && fF ts s)):=by
 have hl2 := dH hl
 have hx := gV hl s.x
 have hy := gV hl s.y
 refine aC Tryz.func175 Tryz.ntmps175 ?_
 repeat' (first|(apply aH;(first|(apply aA (k := 55);rfl;(apply dZ);(rfl);rfl)|(apply aA (k := 56);rfl;(apply jM <;> (omega));exact Pur.pf;rfl)|(apply aA (k := 210);rfl;(apply zP);(rfl);rfl)))|refine aF ?_|(refine aU ?_ ?_ <;> intro hc hq <;> try (exfalso;omega))|(refine cE ?_ ?_ <;> intro hg hq <;> try (exfalso;omega))|refine dC ?_|refine dB ?_|fail)
 all_goals (refine ⟨?_,rfl⟩; simp only [aQ,AV.v.injEq,Value.bool.injEq,Value.int.injEq,true_and])
 all_goals (cases hth : s.th <;> cases hel : s.el <;> simp only [hth,hel,List.length_nil,List.length_cons,List.isEmpty_nil,List.isEmpty_cons,Bool.true_and,Bool.false_and] at *)
 all_goals (try unfold fF)
 all_goals (try simp only [iM,Bool.or_eq_true,Bool.or_eq_false_iff,decide_eq_true_eq,decide_eq_false_iff_not] at *)
 all_goals grind
theorem zK (ts:List Int) (s:AL.Stmt) (hl:bO ts = true):PC Tryz.prog 170 [sl cI ts,cA s] (fun r => r = bv (fF ts s)):=by
 have hl2 := dH hl
 have hx := gV hl s.x
 have hy := gV hl s.y
 refine aC Tryz.func170 Tryz.ntmps170 ?_
 repeat' (first|(apply aH;(apply aA (k := 209);rfl;(apply EE);exact Pur.pf;rfl))|refine aF ?_|(refine aU ?_ ?_ <;> intro hc hq <;> try (exfalso;omega))|(refine cE ?_ ?_ <;> intro hg hq <;> try (exfalso;omega))|refine dB ?_|fail)
 all_goals (refine ⟨?_,rfl⟩; simp only [aQ,AV.v.injEq,Value.bool.injEq,Value.int.injEq,true_and])
 all_goals (try unfold fF)
 all_goals grind
theorem CA (ts:List Int) (hl:bO ts = true) (m:Nat) (ih:∀ l (d:Int),aI l < m → 0 ≤ d → d ≤ 1000 → PC Tryz.prog 85 [sl cI ts,sl aB l,iv d] (fun r => r = bv (okL ts d.toNat l))) (s:AL.Stmt) (d:Int) (hs:cP s ≤ m) (hd0:0 ≤ d) (hd:d ≤ 1000) :
  PC Tryz.prog 134 [sl cI ts,cA s,iv d] (fun r => r = bv (rW ts d.toNat s)) := by
 rw [Hs ts d hd0]
 refine aC Tryz.func134 Tryz.ntmps134 ?_
 repeat' (first|(apply aH;(first|(apply aA (k := 85);rfl;(apply ih <;> (first|omega|(have := dX s;omega)));exact Pur.pf;rfl)|(apply aA (k := 170);rfl;(apply zK <;> (assumption));exact Pur.pf;rfl)))|refine aF ?_|(refine aU ?_ ?_ <;> intro hc hq <;> try (exfalso;omega))|(refine cE ?_ ?_ <;> intro hg hq <;> try (exfalso;omega))|refine dB ?_|fail)
 all_goals (refine ⟨?_,rfl⟩; simp only [aQ,AV.v.injEq,Value.bool.injEq,Value.int.injEq,true_and])
 all_goals (cases hth : s.th <;> cases hel : s.el <;> simp only [hth,hel,List.length_nil,List.length_cons,List.isEmpty_nil,List.isEmpty_cons,Bool.true_and,Bool.false_and] at *)
 all_goals grind
theorem B3 (ts:List Int) (hl:bO ts = true) (m:Nat) (ih:∀ s (d:Int),cP s ≤ m → 0 ≤ d → d ≤ 1000 → PC Tryz.prog 134 [sl cI ts,cA s,iv d] (fun r => r = bv (rW ts d.toNat s))) (l:List AL.Stmt) (d:Int) (hs:aI l ≤ m) (hm:m ≤ 100000000) (hd0:0 ≤ d) (hd:d ≤ 1000) :
  PC Tryz.prog 85 [sl cI ts,sl aB l,iv d] (fun r => r = bv (okL ts d.toNat l)) := by
 have hlen := bR l
 refine aC Tryz.func85 Tryz.ntmps85 ?_
 repeat' (first|refine aF ?_|fail)
 refine aL (σ := Nat) [0,1,2] [] (fun k => [(7,iv (k : Int))]) (fun k => []) (fun k => k ≤ l.length ∧ ∀ i,i < k → rW ts d.toNat l[i]! = true) (fun k => l.length - k) (0) ⟨by omega,by omega⟩ ?_
 intro k ⟨hk,hall⟩
 have hck := cZ l k
 repeat' (first|(apply aH;(apply aA (k := 134);rfl;(apply ih _ d (Nat.le_trans (hck (by omega)) hs) hd0 hd);exact Pur.pf;rfl))|refine aF ?_|(refine aU ?_ ?_ <;> intro hc hq <;> try (exfalso;omega))|refine dB ?_|fail)
 ·(refine ⟨?_, rfl⟩; simp only [aQ, AV.v.injEq, Value.bool.injEq, Value.int.injEq, true_and])
  rw [Es (k := k) (by omega) hq]
 ·(refine bS (k + 1) (Le.renA []) ?_ ?_)
  ·grind
  ·omega
 ·(refine ⟨?_, rfl⟩; simp only [aQ, AV.v.injEq, Value.bool.injEq, Value.int.injEq, true_and])
  rw [Hb (fun i hi => hall i (by omega))]
theorem HA (ts:List Int) (hl:bO ts = true):∀ (m:Nat),m ≤ 100000000 → (∀ s (d:Int),cP s ≤ m → 0 ≤ d → d ≤ 1000 → PC Tryz.prog 134 [sl cI ts,cA s,iv d] (fun r => r = bv (rW ts d.toNat s))) ∧
  (∀ l (d : Int),aI l ≤ m → 0 ≤ d → d ≤ 1000 → PC Tryz.prog 85 [sl cI ts,sl aB l,iv d] (fun r => r = bv (okL ts d.toNat l))) := by
 intro m
 induction m using Nat.strongRecOn with
 | ind m ih =>
  intro hm
  have h1 : ∀ s (d : Int), cP s ≤ m → 0 ≤ d → d ≤ 1000 → PC Tryz.prog 134 [sl cI ts, cA s, iv d] (fun r => r = bv (rW ts d.toNat s)) :=
   fun s d h1 h2 h3 => CA ts hl m (fun l d' g1 g2 g3 => (ih (aI l) g1 (by omega)).2 l d' (Nat.le_refl _) g2 g3) s d h1 h2 h3
  exact ⟨h1,fun l d g1 g2 g3 => B3 ts hl m h1 l d g1 hm g2 g3⟩
theorem zX (m0:Nat) (ih:∀ l (most:Int),aI l < m0 → -1 ≤ most → most ≤ 1000 → PC Tryz.prog 86 [sl aB l,iv most] (fun r => r = iv (lW most 0 l))) (l:List AL.Stmt) (most:Int) (hs:aI l ≤ m0) (hm:m0 ≤ 100000000) (hd0:-1 ≤ most) (hd:most ≤ 1000) :
  PC Tryz.prog 86 [sl aB l,iv most] (fun r => r = iv (lW most 0 l)) := by
 have hlen := bR l
 have hall := k7 l most 0
 refine aC Tryz.func86 Tryz.ntmps86 ?_
 repeat' (first|refine aF ?_|fail)
 refine aL (σ := Nat × Int) [0,1] [] (fun k => [(6,iv (k.1 : Int)),(5,iv k.2)]) (fun k => []) (fun k => k.1 ≤ l.length ∧ lW most k.2 (l.drop k.1) = lW most 0 l ∧ 0 ≤ k.2 ∧ k.2 ≤ aI l) (fun k => l.length - k.1) (0,0) ⟨by omega,rfl,by omega,by omega⟩ ?_
 rintro ⟨k,n⟩ ⟨hk,hn,hn0,hn1⟩
 dsimp only at hk hn hn0 hn1 ⊢
 have hck := cZ l k
 have hct := dX l[k]!
 have b1 := k7 l[k]!.th (most - n) 0
 have b2 := fun z => k7 l[k]!.el z 0
 have b3 := Fg l[k]! most n
 have b4 := k7 (l.drop (k + 1)) most (EC most n l[k]!)
 have b5 := DZ most n l k
 rw [Ge] at b3 b4 b5
 repeat' (first|(apply aH;(apply aA (k := 86);rfl;(apply ih <;> omega);exact Pur.pf;rfl))|refine aF ?_|(refine aU ?_ ?_ <;> intro hc hq <;> try (exfalso;omega))|(refine cE ?_ ?_ <;> intro hg hq <;> try (exfalso;omega))|refine dB ?_|fail)
 ·(refine bS (k + 1, n + 1 + lW (most - n) 0 l[k]!.th + lW (most - (n + 1 + lW (most - n) 0 l[k]!.th)) 0 l[k]!.el) (Le.renA []) ?_ ?_)
  ·dsimp only;grind
  ·dsimp only;omega
 ·(refine bS (k + 1, n + 1 + lW (most - n) 0 l[k]!.th) (Le.renA []) ?_ ?_)
  ·dsimp only;grind
  ·dsimp only;omega
 ·(refine ⟨?_, rfl⟩; simp only [aQ, AV.v.injEq, Value.bool.injEq, Value.int.injEq, true_and])
  rw [← hn,Ek _ _ _ (by omega)]
 ·(refine ⟨?_, rfl⟩; simp only [aQ, AV.v.injEq, Value.bool.injEq, Value.int.injEq, true_and])
  rw [← hn,Gw _ _ _ _ (by omega)]
theorem BY (l:List AL.Stmt) (most:Int) (hs:aI l ≤ 100000000) (hd0:-1 ≤ most) (hd:most ≤ 1000) :
  PC Tryz.prog 86 [sl aB l,iv most] (fun r => r = iv (lW most 0 l)) := by
 have h : ∀ (m : Nat), m ≤ 100000000 → ∀ l (most : Int), aI l ≤ m → -1 ≤ most → most ≤ 1000 → PC Tryz.prog 86 [sl aB l, iv most] (fun r => r = iv (lW most 0 l)) := by
  intro m
  induction m using Nat.strongRecOn with
  | ind m ih =>
   intro hm l most h1 h2 h3
   exact zX m (fun l' most' g1 g2 g3 => ih _ g1 (by omega) l' most' (Nat.le_refl _) g2 g3) l most h1 hm h2 h3
 exact h _ hs l most (Nat.le_refl _) hd0 hd
theorem DN (ts:List Int) (l:List AL.Stmt) (d:Int) (hl:bO ts = true) (hs:aI l ≤ 100000000) (hd0:0 ≤ d) (hd:d ≤ 1000):PC Tryz.prog 85 [sl cI ts,sl aB l,iv d] (fun r => r = bv (okL ts d.toNat l)) :=
 (HA ts hl _ hs).2 l d (Nat.le_refl _) hd0 hd
theorem sH (ts:List Int) (hl:ts.length ≤ 1048576):PC Tryz.prog 84 [sl cI ts] (fun r => r = bv (bO ts)):=by
 refine aC Tryz.func84 Tryz.ntmps84 ?_
 repeat' (first|refine aF ?_|fail)
 refine aL (σ := Nat) [0] [] (fun k => [(3,iv (k : Int))]) (fun k => []) (fun k => k ≤ ts.length ∧ ∀ i,i < k → 1 ≤ ts[i]! ∧ ts[i]! ≤ 4) (fun k => ts.length - k) (0) ⟨by omega,by omega⟩ ?_
 intro k ⟨hk,hall⟩
 repeat' (first|refine aF ?_|(refine aU ?_ ?_ <;> intro hc hq <;> try (exfalso;omega))|(refine cE ?_ ?_ <;> intro hg hq <;> try (exfalso;omega))|refine dB ?_|fail)
 ·(refine ⟨?_, rfl⟩; simp only [aQ, AV.v.injEq, Value.bool.injEq, Value.int.injEq, true_and])
  unfold bO;grind [lH,lF]
 ·(refine bS (k + 1) (Le.renA []) ?_ ?_)
  ·grind
  ·omega
 ·(refine ⟨?_, rfl⟩; simp only [aQ, AV.v.injEq, Value.bool.injEq, Value.int.injEq, true_and])
  unfold bO;grind [lH,lF]
 ·(refine ⟨?_, rfl⟩; simp only [aQ, AV.v.injEq, Value.bool.injEq, Value.int.injEq, true_and])
  unfold bO;grind [lH,lF]
theorem iD (p:Prg) (hl:p.types.length ≤ 1048576) (hs:aI p.body ≤ 100000000):PC Tryz.prog 40 [bY p] (fun r => r = bv (bE p)):=by
 unfold bE
 cases ht : bO p.types
 ·refine aC Tryz.func40 Tryz.ntmps40 ?_
  repeat' (first|(apply aH;(apply aA (k := 84);rfl;(apply sH <;> (assumption));exact Pur.pf;rfl))|refine aF ?_|refine dB ?_|fail)
  (refine ⟨?_,rfl⟩; simp only [aQ,AV.v.injEq,Value.bool.injEq,Value.int.injEq,true_and])
  rfl
 ·refine aC Tryz.func40 Tryz.ntmps40 ?_
  repeat' (first|(apply aH;(first|(apply aA (k := 84);rfl;(apply sH <;> (assumption));exact Pur.pf;rfl)|(apply aA (k := 85);rfl;(apply DN <;> (first|assumption|omega));exact Pur.pf;rfl)|(apply aA (k := 86);rfl;(apply BY <;> (first|assumption|omega));exact Pur.pf;rfl)))|refine aF ?_|(refine cE ?_ ?_ <;> intro hg hq <;> try (exfalso;omega))|refine dB ?_|fail)
  ·(refine ⟨?_, rfl⟩; simp only [aQ, AV.v.injEq, Value.bool.injEq, Value.int.injEq, true_and])
   rw [show okL p.types 4 p.body = true from hq]; simp only [Bool.true_and,IY,decide_eq_decide]; omega
  ·(refine ⟨?_, rfl⟩; simp only [aQ, AV.v.injEq, Value.bool.injEq, Value.int.injEq, true_and])
   rw [show okL p.types 4 p.body = false from hq]; rfl
end Go.Proofs.YtgkalkgplcdnkaaGreat
namespace Go.Proofs.YtgkalkgplcdnkaaGreat
open Go.AL Go.RowKit
variable {N : Nat} {Q : Exit → AS → Prop} {all : Array Oper} {rest : List Oper} {tsl : List (Nat × AV)} {hsl : List (Nat × Option (List AV))} {nidl : Nat} {z0 : Lo} {md : Md} {d : Nat} {ty : TypeId} {pos : String} {af : Array Edge} {tys : Array TypeId}
theorem HF {ts:List Int}{s:AL.Stmt}{nest c:Int}{x0 x1 x2 x3:Operand}{i0:Nat}(ha0:ev (lk tsl) x0 = some (sl cI ts)) (ha1:ev (lk tsl) x1 = some (cA s)) (ha2:ev (lk tsl) x2 = some (iv nest)) (ha3:ev (lk tsl) x3 = some (.optr i0 0)) (hH0:aP hsl i0 = some ([iv c])) (hmc:MC Tryz.prog 138 [sl cI ts,cA s,iv nest,.optr 0 0] [(0,some ([iv c]))] 1 (fun _:Unit => True) (fun _ => bv (kY ts nest c s).1) (fun _ => [(0,some ([iv (kY ts nest c s).2]))])) (hM:Nat.ble (nidl + 0) aX = true) (hN:Nat.blt d N = true){md':Md}[hmd:MdA md (jS [x0,x1,x2,x3] ++ [.inr i0]) (List.map Sum.inr (List.map Prod.fst ([(i0,some ([iv (kY ts nest c s).2]))]:List (Nat × Option (List AV)))) ++ [.inl d]) md'] (kk:RW Tryz.prog N all Q md' rest ⟨(d,bv (kY ts nest c s).1) :: tsl,mY hsl [(i0,some ([iv (kY ts nest c s).2]))],nidl + 0,z0⟩):RW Tryz.prog N all Q md (⟨some d,.call ⟨.value (.func 138),#[x0,x1,x2,x3],tys⟩,ty,pos,af,none⟩ :: rest) ⟨tsl,hsl,nidl,z0⟩:=by
 exact cG (l := [x0,x1,x2,x3]) [i0] 1 [(i0,some ([iv (kY ts nest c s).2]))] hmc (avs := [sl cI ts,cA s,iv nest,.optr i0 0]) (by simp only [evL,ha0,ha1,ha2,ha3]) rfl hM hN (md' := md') (hmd := hmd) kk
theorem p9 {ts:List Int}{l:List AL.Stmt}{nest c:Int}{x0 x1 x2 x3:Operand}{i0:Nat}(ha0:ev (lk tsl) x0 = some (sl cI ts)) (ha1:ev (lk tsl) x1 = some (sl aB l)) (ha2:ev (lk tsl) x2 = some (iv nest)) (ha3:ev (lk tsl) x3 = some (.optr i0 0)) (hH0:aP hsl i0 = some ([iv c])) (hmc:MC Tryz.prog 90 [sl cI ts,sl aB l,iv nest,.optr 0 0] [(0,some ([iv c]))] 1 (fun _:Unit => True) (fun _ => bv (jB ts nest c l).1) (fun _ => [(0,some ([iv (jB ts nest c l).2]))])) (hM:Nat.ble (nidl + 0) aX = true) (hN:Nat.blt d N = true){md':Md}[hmd:MdA md (jS [x0,x1,x2,x3] ++ [.inr i0]) (List.map Sum.inr (List.map Prod.fst ([(i0,some ([iv (jB ts nest c l).2]))]:List (Nat × Option (List AV)))) ++ [.inl d]) md'] (kk:RW Tryz.prog N all Q md' rest ⟨(d,bv (jB ts nest c l).1) :: tsl,mY hsl [(i0,some ([iv (jB ts nest c l).2]))],nidl + 0,z0⟩):RW Tryz.prog N all Q md (⟨some d,.call ⟨.value (.func 90),#[x0,x1,x2,x3],tys⟩,ty,pos,af,none⟩ :: rest) ⟨tsl,hsl,nidl,z0⟩:=by
 exact cG (l := [x0,x1,x2,x3]) [i0] 1 [(i0,some ([iv (jB ts nest c l).2]))] hmc (avs := [sl cI ts,sl aB l,iv nest,.optr i0 0]) (by simp only [evL,ha0,ha1,ha2,ha3]) rfl hM hN (md' := md') (hmd := hmd) kk
theorem Hf (ts:List Int) (htO:bO ts = true) (m:Nat) (scanAll_ih:∀ l nest c,aI l < m → 0 ≤ nest → nest ≤ 4 → 0 ≤ c → c ≤ 30 → MC Tryz.prog 90 [sl cI ts,sl aB l,iv nest,.optr 0 0] [(0,some ([iv c]))] 1 (fun _:Unit => True) (fun _ => bv (jB ts nest c l).1) (fun _ => [(0,some ([iv (jB ts nest c l).2]))])) (s:AL.Stmt) (nest c:Int) (hs:cP s ≤ m) (hn0:0 ≤ nest) (hn:nest ≤ 4) (hc0:0 ≤ c) (hc:c ≤ 30):MC Tryz.prog 138 [sl cI ts,cA s,iv nest,.optr 0 0] [(0,some ([iv c]))] 1 (fun _:Unit => True) (fun _ => bv (kY ts nest c s).1) (fun _ => [(0,some ([iv (kY ts nest c s).2]))]):=by
 have ct := dX s
 have hb1 := ID ts s.th (nest + 1) (c + 1)
 refine c8 Tryz.func138 Tryz.ntmps138 ?_
 repeat' (first|(apply aH;(first|(apply p9;rfl;rfl;rfl;rfl;(rfl);(apply scanAll_ih <;> (first|assumption|omega|grind));rfl;rfl)|(apply aA (k := 174);rfl;(apply AM);(rfl);rfl)|(apply aA (k := 175);rfl;(apply Aq <;> (assumption));exact Pur.pf;rfl)))|refine aF ?_|(refine aU ?_ ?_ <;> intro hc hq <;> try (exfalso;omega))|(refine cE ?_ ?_ <;> intro hg hq <;> try (exfalso;omega))|fail)
 all_goals (refine aO rfl ?_; refine eS () trivial ?_ ⟨sE ?_,trivial⟩)
 all_goals (try simp only [aQ,AV.v.injEq,Value.bool.injEq,Value.int.injEq,true_and,iH,List.take,List.drop,List.length,List.append,List.nil_append,List.append_nil,Option.some.injEq,List.cons.injEq,and_true])
 all_goals rw [Hk]
 all_goals clear scanAll_ih
 all_goals (cases hel : s.el <;> simp only [hel,List.length_nil,List.length_cons] at * <;> grind)
theorem zA (ts:List Int) (m:Nat) (hm:m ≤ 100000000) (scan_ih:∀ s nest c,cP s ≤ m → 0 ≤ nest → nest ≤ 4 → 0 ≤ c → c ≤ 30 → MC Tryz.prog 138 [sl cI ts,cA s,iv nest,.optr 0 0] [(0,some ([iv c]))] 1 (fun _:Unit => True) (fun _ => bv (kY ts nest c s).1) (fun _ => [(0,some ([iv (kY ts nest c s).2]))])) (l:List AL.Stmt) (nest c:Int) (hs:aI l ≤ m) (hn0:0 ≤ nest) (hn:nest ≤ 4) (hc0:0 ≤ c) (hc:c ≤ 30):MC Tryz.prog 90 [sl cI ts,sl aB l,iv nest,.optr 0 0] [(0,some ([iv c]))] 1 (fun _:Unit => True) (fun _ => bv (jB ts nest c l).1) (fun _ => [(0,some ([iv (jB ts nest c l).2]))]):=by
 have hlen := bR l
 refine c8 Tryz.func90 Tryz.ntmps90 ?_
 repeat' (first|refine aF ?_|fail)
 refine aL (σ := Nat × Int) [0,2,3,11,12] [] (fun k => [(13,iv (k.1 : Int))]) (fun k => [(0,some [iv k.2])]) (fun k => k.1 ≤ l.length ∧ jB ts nest k.2 (l.drop k.1) = jB ts nest c l ∧ 0 ≤ k.2 ∧ k.2 ≤ 30) (fun k => l.length - k.1) (0,c) ⟨by omega,rfl,by omega,by omega⟩ ?_
 rintro ⟨k,c'⟩ ⟨hk,hn,hn0,hn1⟩
 dsimp only at hk hn hn0 hn1 ⊢
 have hck := cZ l k
 have hb1 := Jk ts l[k]! nest c'
 have hst := @scL_stop ts nest c' l k
 repeat' (first|(apply aH;(apply HF;rfl;rfl;rfl;rfl;(rfl);(apply scan_ih <;> (first|assumption|omega));rfl;rfl))|refine aF ?_|(refine aU ?_ ?_ <;> intro hc hq <;> try (exfalso;omega))|fail)
 ·(refine aO rfl ?_; refine eS () trivial ?_ ⟨sE ?_, trivial⟩)
  all_goals (try simp only [aQ,AV.v.injEq,Value.bool.injEq,Value.int.injEq,true_and,iH,List.take,List.drop,List.length,List.append,List.nil_append,List.append_nil,Option.some.injEq,List.cons.injEq,and_true])
  all_goals (rw [← hn,hst (by omega)]; grind)
 ·(refine bS (k + 1, (kY ts nest c' l[k]!).2) (Le.renA []) ?_ ?_)
  ·dsimp only;grind
  ·dsimp only;omega
 ·(refine aO rfl ?_; refine eS () trivial ?_ ⟨sE ?_, trivial⟩)
  all_goals (try simp only [aQ,AV.v.injEq,Value.bool.injEq,Value.int.injEq,true_and,iH,List.take,List.drop,List.length,List.append,List.nil_append,List.append_nil,Option.some.injEq,List.cons.injEq,and_true])
  all_goals (rw [← hn,List.drop_of_length_le (by omega),jB])
theorem B8 (ts:List Int) (hl:bO ts = true):∀ (m:Nat),m ≤ 100000000 → (∀ s (nest c:Int),cP s ≤ m → 0 ≤ nest → nest ≤ 4 → 0 ≤ c → c ≤ 30 → MC Tryz.prog 138 [sl cI ts,cA s,iv nest,.optr 0 0] [(0,some ([iv c]))] 1 (fun _:Unit => True) (fun _ => bv (kY ts nest c s).1) (fun _ => [(0,some ([iv (kY ts nest c s).2]))])) ∧
  (∀ l (nest c : Int),aI l ≤ m → 0 ≤ nest → nest ≤ 4 → 0 ≤ c → c ≤ 30 → MC Tryz.prog 90 [sl cI ts,sl aB l,iv nest,.optr 0 0] [(0,some ([iv c]))] 1 (fun _ : Unit => True) (fun _ => bv (jB ts nest c l).1) (fun _ => [(0,some ([iv (jB ts nest c l).2]))])) := by
 intro m
 induction m using Nat.strongRecOn with
 | ind m ih =>
  intro hm
  have h1 : ∀ s (nest c : Int), cP s ≤ m → 0 ≤ nest → nest ≤ 4 → 0 ≤ c → c ≤ 30 → MC Tryz.prog 138 [sl cI ts, cA s, iv nest, .optr 0 0] [(0, some ([iv c]))] 1 (fun _ : Unit => True) (fun _ => bv (kY ts nest c s).1) (fun _ => [(0, some ([iv (kY ts nest c s).2]))]) :=
   fun s nest c h1 h2 h3 h4 h5 => Hf ts hl m (fun l nest c g1 g2 g3 g4 g5 => (ih (aI l) g1 (by omega)).2 l nest c (Nat.le_refl _) g2 g3 g4 g5) s nest c h1 h2 h3 h4 h5
  exact ⟨h1,fun l nest c g1 g2 g3 g4 g5 => zA ts m hm h1 l nest c g1 g2 g3 g4 g5⟩
theorem BT (ts:List Int) (l:List AL.Stmt) (nest c:Int) (hl:bO ts = true) (hs:aI l ≤ 100000000) (hn0:0 ≤ nest) (hn:nest ≤ 4) (hc0:0 ≤ c) (hc:c ≤ 30):MC Tryz.prog 90 [sl cI ts,sl aB l,iv nest,.optr 0 0] [(0,some ([iv c]))] 1 (fun _:Unit => True) (fun _ => bv (jB ts nest c l).1) (fun _ => [(0,some ([iv (jB ts nest c l).2]))]) :=
 (B8 ts hl _ hs).2 l nest c (Nat.le_refl _) hn0 hn hc0 hc
theorem AK (t:Int):PC Tryz.prog 137 [iv t] (fun r => r = bv (!(decide (1 ≤ t) && decide (t ≤ 4)))):=by
 refine aC Tryz.func137 Tryz.ntmps137 ?_
 repeat' (first|(apply aH;(apply aA (k := 55);rfl;(apply dZ);(rfl);rfl))|refine aF ?_|refine dB ?_|fail)
 all_goals (refine ⟨?_,rfl⟩; simp only [aQ,AV.v.injEq,Value.bool.injEq,Value.int.injEq,true_and])
def qW (ts : List Int) : Int := match ts.findIdx? (fun t => !(decide (1 ≤ t) && decide (t ≤ 4))) with | some i => i | none => -1
theorem DG (ts:List Int) (hl:ts.length ≤ 1048576):PC Tryz.prog 156 [sl cI ts,.v (.func (.func 137) #[] #[])] (fun r => r = iv (qW ts)):=by
 refine aC Tryz.func156 Tryz.ntmps156 ?_
 repeat' (first|refine aF ?_|fail)
 refine aL (σ := Nat) [0,1,7] [] (fun k => [(8,iv (k : Int))]) (fun k => []) (fun k => k ≤ ts.length ∧ ∀ i,i < k → 1 ≤ ts[i]! ∧ ts[i]! ≤ 4) (fun k => ts.length - k) (0) ⟨by omega,by omega⟩ ?_
 intro k ⟨hk,hall⟩
 repeat' (first|(apply aH;(apply nN;rfl;rfl;infer_instance;rfl;(apply AK);(rfl);rfl))|refine aF ?_|(refine aU ?_ ?_ <;> intro hc hq <;> try (exfalso;omega))|refine dB ?_|fail)
 ·(refine ⟨?_, rfl⟩; simp only [aQ, AV.v.injEq, Value.bool.injEq, Value.int.injEq, true_and])
  have hlt : k < ts.length := by omega
  have : ts.findIdx? (fun t => !(decide (1 ≤ t) && decide (t ≤ 4))) = some k := by
   rw [List.findIdx?_eq_some_iff_getElem]
   refine ⟨hlt,?_,fun j hj => ?_⟩
   ·rw [← bF ts k hlt]; grind
   ·have := hall j hj;rw [bF ts j (by omega)] at this;simp;omega
  simp only [qW,this]
 ·(refine bS (k + 1) (Le.renA []) ?_ ?_)
  ·grind
  ·omega
 ·(refine ⟨?_, rfl⟩; simp only [aQ, AV.v.injEq, Value.bool.injEq, Value.int.injEq, true_and])
  have : ts.findIdx? (fun t => !(decide (1 ≤ t) && decide (t ≤ 4))) = none := by
   rw [List.findIdx?_eq_none_iff]
   intro x hx
   obtain ⟨i,hi,rfl⟩ := List.getElem_of_mem hx
   have := hall i (by omega);rw [bF ts i hi] at this;simp;omega
  simp only [qW,this]
theorem CM (ts:List Int):decide (0 ≤ qW ts) = !(ts.all (fun t => decide (1 ≤ t) && decide (t ≤ 4))):=by
 unfold qW
 split
 ·rename_i i h
  obtain ⟨h1,h2,_⟩ := List.findIdx?_eq_some_iff_getElem.1 h
  have : ts.all (fun t => decide (1 ≤ t) && decide (t ≤ 4)) = false := by
   rw [List.all_eq_false]; exact ⟨ts[i],List.getElem_mem h1,by simp at h2 ⊢; omega⟩
  rw [this]; simp
 ·rename_i h
  rw [List.findIdx?_eq_none_iff] at h
  have : ts.all (fun t => decide (1 ≤ t) && decide (t ≤ 4)) = true := by
   rw [List.all_eq_true]; intro x hx;simpa using h x hx
  rw [this]; rfl
theorem Cq (ts:List Int) (hl:ts.length ≤ 1048576):PC Tryz.prog 115 [sl cI ts,.v (.func (.func 137) #[] #[])] (fun r => r = bv (!(ts.all (fun t => decide (1 ≤ t) && decide (t ≤ 4))))):=by
 refine aC Tryz.func115 Tryz.ntmps115 ?_
 repeat' (first|(apply aH;(apply aA (k := 156);rfl;(apply DG <;> (assumption));exact Pur.pf;rfl))|refine aF ?_|refine dB ?_|fail)
 (refine ⟨?_,rfl⟩; simp only [aQ,AV.v.injEq,Value.bool.injEq,Value.int.injEq,true_and])
 exact CM ts
theorem qF (ts:List Int) (hl:ts.length ≤ 1048576):PC Tryz.prog 89 [sl cI ts] (fun r => r = bv (bO ts)):=by
 refine aC Tryz.func89 Tryz.ntmps89 ?_
 repeat' (first|(apply aH;(apply aA (k := 115);rfl;(apply Cq <;> (assumption));exact Pur.pf;rfl))|refine aF ?_|(refine cE ?_ ?_ <;> intro hg hq <;> try (exfalso;omega))|refine dB ?_|fail)
 all_goals (refine ⟨?_,rfl⟩; simp only [aQ,AV.v.injEq,Value.bool.injEq,Value.int.injEq,true_and])
 all_goals (unfold bO;grind)
theorem fC (p:Prg) (hl:p.types.length ≤ 1048576) (hs:aI p.body ≤ 100000000):PC Tryz.prog 45 [bY p] (fun r => r = bv (bE p)):=by
 rw [← B2]
 cases ht : bO p.types
 ·refine aC Tryz.func45 Tryz.ntmps45 ?_
  repeat' (first|(apply aH;(apply aA (k := 89);rfl;(apply qF <;> (assumption));exact Pur.pf;rfl))|refine aF ?_|refine dB ?_|fail)
  all_goals (refine ⟨?_,rfl⟩; simp only [aQ,AV.v.injEq,Value.bool.injEq,Value.int.injEq,true_and])
  all_goals grind
 ·refine aC Tryz.func45 Tryz.ntmps45 ?_
  repeat' (first|(apply aH;(first|(apply aA (k := 89);rfl;(apply qF <;> (assumption));exact Pur.pf;rfl)|(apply p9;rfl;rfl;rfl;rfl;(rfl);(apply BT <;> (first|assumption|omega));rfl;rfl)))|refine aF ?_|refine dB ?_|fail)
  all_goals (refine ⟨?_,rfl⟩; simp only [aQ,AV.v.injEq,Value.bool.injEq,Value.int.injEq,true_and])
  all_goals grind
theorem oN {l:List AL.Stmt}{pts:List Pnt}{m:Nat}{x0 x1:Operand}{i0:Nat}(ha0:ev (lk tsl) x0 = some (sl aB l)) (ha1:ev (lk tsl) x1 = some (.own i0 0 m 5)) (hH0:aP hsl i0 = some (flat b0 pts)) (hmc:MC Tryz.prog 94 [sl aB l,.own 0 0 m 5] [(0,some (flat b0 pts))] 1 (fun _:Unit => True) (fun _ => .own 1 0 (m + b8 l) 5) (fun _ => [(1,some (flat b0 (pts ++ gA pts.length l)))])) (hM:Nat.ble (nidl + 1) aX = true) (hN:Nat.blt d N = true){md':Md}[hmd:MdA md (jS [x0,x1] ++ [.inr i0]) (List.map Sum.inr (List.map Prod.fst ([(nidl,some (flat b0 (pts ++ gA pts.length l))),(i0,none)]:List (Nat × Option (List AV)))) ++ [.inl d]) md'] (kk:RW Tryz.prog N all Q md' rest ⟨(d,.own nidl 0 (m + b8 l) 5) :: tsl,mY hsl [(nidl,some (flat b0 (pts ++ gA pts.length l))),(i0,none)],nidl + 1,z0⟩):RW Tryz.prog N all Q md (⟨some d,.call ⟨.value (.func 94),#[x0,x1],tys⟩,ty,pos,af,none⟩ :: rest) ⟨tsl,hsl,nidl,z0⟩:=by
 exact cG (l := [x0,x1]) [i0] 2 [(nidl,some (flat b0 (pts ++ gA pts.length l))),(i0,none)] hmc (avs := [sl aB l,.own i0 0 m 5]) (by simp only [evL,ha0,ha1]) rfl hM hN (md' := md') (hmd := hmd) kk
theorem xD (mm:Nat) (hmm:mm ≤ 1048576) (pointsOf_ih:∀ l pts m,aI l < mm → m = pts.length → m + b8 l ≤ 13000000 → MC Tryz.prog 94 [sl aB l,.own 0 0 m 5] [(0,some (flat b0 pts))] 1 (fun _:Unit => True) (fun _ => .own 1 0 (m + b8 l) 5) (fun _ => [(1,some (flat b0 (pts ++ gA pts.length l)))])) (l:List AL.Stmt) (pts:List Pnt) (m:Nat) (hs:aI l ≤ mm) (hm:m = pts.length) (hb:m + b8 l ≤ 13000000):MC Tryz.prog 94 [sl aB l,.own 0 0 m 5] [(0,some (flat b0 pts))] 1 (fun _:Unit => True) (fun _ => .own 1 0 (m + b8 l) 5) (fun _ => [(1,some (flat b0 (pts ++ gA pts.length l)))]):=by
 have hlen := bR l
 subst hm
 refine c8 Tryz.func94 Tryz.ntmps94 ?_
 repeat' (first|refine aF ?_|fail)
 refine AW.le ?_ (Le.mv (d := 1) (i := 0) (cs := flat b0 pts) rfl rfl (by decide))
 refine aL (σ := Nat × List Pnt × Nat) [9,10] [] (fun k => [(11,iv (k.1 : Int)),(1,.own 1 0 k.2.2 5)]) (fun k => [(1,some (flat b0 k.2.1))]) (fun k => k.1 ≤ l.length ∧ k.2.1 = pts ++ gA pts.length (l.take k.1) ∧ k.2.2 = k.2.1.length ∧ k.2.2 = pts.length + b8 (l.take k.1)) (fun k => l.length - k.1) (0,pts,pts.length) ⟨by omega,by simp [gA],rfl,by simp [b8]⟩ ?_
 rintro ⟨k,xs,m1⟩ ⟨hk,hxs,hm1,hm2⟩
 dsimp only at hk hxs hm1 hm2 ⊢
 have hck := cZ l k
 have hct := dX l[k]!
 have hnt := zD l k
 have n9 := FJ l[k]!
 have n10 := AB l[k]!
 have n1 := E4 l[k]!
 repeat' (first|(apply aH;first|(apply aY (t := _);rfl;rfl;rfl;(first|exact (rfl:_=some [_])|exact (rfl:_=some [_,_])|exact (rfl:_=some [_,_,_,_,_]));rfl;rfl)|(apply oN;rfl;rfl;(rfl);(apply pointsOf_ih <;> (first|omega|(simp only [kD] <;> omega)));rfl;rfl))|refine aF ?_|(refine aU ?_ ?_ <;> intro hc hq <;> try (exfalso;omega))|fail)
 ·(refine bS (k + 1, _, _) (Le.renA [(1, 8)]) ?_ ?_)
  ·dsimp only
   rw [uQ hm1,vC hm1,tG (by rw [bK,hm1]),vG (by rw [bK,hm1]),fH l _ k (by omega),eN l k (by omega),gS,if_pos hq,n9 hq]
   refine ⟨by omega,?_,by simp [bK]; omega,by omega⟩
   have e1 : xs.length = pts.length + b8 (l.take k) := by omega
   rw [← List.append_assoc pts,← hxs,← e1]
   simp only [List.append_assoc,List.length_append,List.length_cons,List.length_nil,bK,hm1,Nat.zero_add]
   clear pointsOf_ih hxs hck hnt n9 n10 n1
   grind
  ·dsimp only;omega
 ·(refine bS (k + 1, _, _) (Le.renA [(1, 8)]) ?_ ?_)
  ·dsimp only
   rw [y9 hm1,yX hm1,fH l _ k (by omega),eN l k (by omega),gS,if_neg (by omega),if_pos hq,n10 hq]
   refine ⟨by omega,?_,by simp [bK]; omega,by omega⟩
   have e1 : xs.length = pts.length + b8 (l.take k) := by omega
   rw [← List.append_assoc pts,← hxs,← e1]
   simp only [List.append_assoc,List.length_append,List.length_cons,List.length_nil,bK,hm1,Nat.zero_add]
   clear pointsOf_ih hxs hck hnt n9 n10 n1
   grind
  ·dsimp only;omega
 ·(refine bS (k + 1, _, _) (Le.renA [(1, 5)]) ?_ ?_)
  ·dsimp only
   rw [fH l _ k (by omega),eN l k (by omega),gS,if_neg ‹¬l[k]!.op = 9›,if_neg hq,n1 ‹¬l[k]!.op = 9› hq]
   refine ⟨by omega,?_,by simp [bK]; omega,by omega⟩
   have e1 : xs.length = pts.length + b8 (l.take k) := by omega
   rw [← List.append_assoc pts,← hxs,← e1,hm1]
  ·dsimp only;omega
 ·refine aO rfl ?_
  have e2 : l.take k = l := List.take_of_length_le (by omega)
  rw [e2] at hxs hm2
  refine eS () trivial ?_ ⟨sE ?_,trivial⟩
  ·simp only [aQ]; rw [hm2]
  ·rw [hxs]
theorem AG (l:List AL.Stmt) (pts:List Pnt) (m:Nat) (hs:aI l ≤ 1048576) (hm:m = pts.length) (hb:m + b8 l ≤ 13000000):MC Tryz.prog 94 [sl aB l,.own 0 0 m 5] [(0,some (flat b0 pts))] 1 (fun _:Unit => True) (fun _ => .own 1 0 (m + b8 l) 5) (fun _ => [(1,some (flat b0 (pts ++ gA pts.length l)))]):=by
 have h : ∀ (mm : Nat), mm ≤ 1048576 → ∀ l pts m, aI l ≤ mm → m = pts.length → m + b8 l ≤ 13000000 → MC Tryz.prog 94 [sl aB l, .own 0 0 m 5] [(0, some (flat b0 pts))] 1 (fun _ : Unit => True) (fun _ => .own 1 0 (m + b8 l) 5) (fun _ => [(1, some (flat b0 (pts ++ gA pts.length l)))]) := by
  intro mm
  induction mm using Nat.strongRecOn with
  | ind mm ih =>
   intro h0 l pts m h1 h2 h3
   exact xD mm h0 (fun l' pts' m' g1 g2 g3 => ih _ g1 (by omega) l' pts' m' (Nat.le_refl _) g2 g3) l pts m h1 h2 h3
 exact h _ hs l pts m (Nat.le_refl _) hm hb
theorem m9 {l:List AL.Stmt}{x0 x1:Operand}(ha0:ev (lk tsl) x0 = some (sl aB l)) (ha1:ev (lk tsl) x1 = some (.v (.slice none 0 0))) (hmc:MC Tryz.prog 94 [sl aB l,.v (.slice none 0 0)] [] 0 (fun _:Unit => True) (fun _ => .own 0 0 (b8 l) 5) (fun _ => [(0,some (flat b0 (gA 0 l)))])) (hM:Nat.ble (nidl + 1) aX = true) (hN:Nat.blt d N = true){md':Md}[hmd:MdA md (jS [x0,x1] ++ []) (List.map Sum.inr (List.map Prod.fst ([(nidl,some (flat b0 (gA 0 l)))]:List (Nat × Option (List AV)))) ++ [.inl d]) md'] (kk:RW Tryz.prog N all Q md' rest ⟨(d,.own nidl 0 (b8 l) 5) :: tsl,mY hsl [(nidl,some (flat b0 (gA 0 l)))],nidl + 1,z0⟩):RW Tryz.prog N all Q md (⟨some d,.call ⟨.value (.func 94),#[x0,x1],tys⟩,ty,pos,af,none⟩ :: rest) ⟨tsl,hsl,nidl,z0⟩:=by
 exact cG (l := [x0,x1]) [] 1 [(nidl,some (flat b0 (gA 0 l)))] hmc (avs := [sl aB l,.v (.slice none 0 0)]) (by simp only [evL,ha0,ha1]) rfl hM hN (md' := md') (hmd := hmd) kk
theorem oM (l:List AL.Stmt) (hs:aI l ≤ 1048576):MC Tryz.prog 94 [sl aB l,.v (.slice none 0 0)] [] 0 (fun _:Unit => True) (fun _ => .own 0 0 (b8 l) 5) (fun _ => [(0,some (flat b0 (gA 0 l)))]):=by
 have hlen := bR l
 have hn2 := gZ l
 refine c8 Tryz.func94 Tryz.ntmps94 ?_
 repeat' (first|refine aF ?_|fail)
 refine AW.le ?_ (Le.nilOwn (d := 1) 5 rfl (by decide))
 refine aL (σ := Nat × List Pnt × Nat) [9,10] [] (fun k => [(11,iv (k.1 : Int)),(1,.own 0 0 k.2.2 5)]) (fun k => [(0,some (flat b0 k.2.1))]) (fun k => k.1 ≤ l.length ∧ k.2.1 = gA 0 (l.take k.1) ∧ k.2.2 = k.2.1.length ∧ k.2.2 = b8 (l.take k.1)) (fun k => l.length - k.1) (0,[],0) ⟨by omega,by simp [gA],rfl,by simp [b8]⟩ ?_
 rintro ⟨k,xs,m1⟩ ⟨hk,hxs,hm1,hm2⟩
 dsimp only at hk hxs hm1 hm2 ⊢
 have hck := cZ l k
 have hct := dX l[k]!
 have hnt := zD l k
 have n9 := FJ l[k]!
 have n10 := AB l[k]!
 have n1 := E4 l[k]!
 repeat' (first|(apply aH;first|(apply aY (t := _);rfl;rfl;rfl;(first|exact (rfl:_=some [_])|exact (rfl:_=some [_,_])|exact (rfl:_=some [_,_,_,_,_]));rfl;rfl)|(apply oN;rfl;rfl;(rfl);(apply AG <;> (first|omega|(simp only [kD] <;> omega)));rfl;rfl))|refine aF ?_|(refine aU ?_ ?_ <;> intro hc hq <;> try (exfalso;omega))|fail)
 ·(refine bS (k + 1, _, _) (Le.renA [(0, 7)]) ?_ ?_)
  ·dsimp only
   rw [uQ hm1,vC hm1,tG (by rw [bK,hm1]),vG (by rw [bK,hm1]),fH l _ k (by omega),eN l k (by omega),gS,if_pos hq,n9 hq]
   refine ⟨by omega,?_,by simp [bK]; omega,by omega⟩
   have e1 : b8 (l.take k) = xs.length := by omega
   rw [Nat.zero_add,e1]
   rw [← hxs]
   simp only [List.append_assoc,List.length_append,List.length_cons,List.length_nil,bK,hm1,Nat.zero_add]
   clear hxs hck hnt n9 n10 n1
   grind
  ·dsimp only;omega
 ·(refine bS (k + 1, _, _) (Le.renA [(0, 7)]) ?_ ?_)
  ·dsimp only
   rw [y9 hm1,yX hm1,fH l _ k (by omega),eN l k (by omega),gS,if_neg (by omega),if_pos hq,n10 hq]
   refine ⟨by omega,?_,by simp [bK]; omega,by omega⟩
   have e1 : b8 (l.take k) = xs.length := by omega
   rw [Nat.zero_add,e1]
   rw [← hxs]
   simp only [List.append_assoc,List.length_append,List.length_cons,List.length_nil,bK,hm1,Nat.zero_add]
   clear hxs hck hnt n9 n10 n1
   grind
  ·dsimp only;omega
 ·(refine bS (k + 1, _, _) (Le.renA [(0, 4)]) ?_ ?_)
  ·dsimp only
   rw [fH l _ k (by omega),eN l k (by omega),gS,if_neg ‹¬l[k]!.op = 9›,if_neg hq,n1 ‹¬l[k]!.op = 9› hq]
   refine ⟨by omega,?_,by simp [bK]; omega,by omega⟩
   have e1 : b8 (l.take k) = xs.length := by omega
   rw [Nat.zero_add,e1]
   rw [← hxs,hm1]
  ·dsimp only;omega
 ·refine aO rfl ?_
  have e2 : l.take k = l := List.take_of_length_le (by omega)
  rw [e2] at hxs hm2
  refine eS () trivial ?_ ⟨sE ?_,trivial⟩
  ·simp only [aQ]; rw [hm2]
  ·rw [hxs]
theorem wC (p:Prg) (hs:aI p.body ≤ 1048576):PC Tryz.prog 109 [bY p] (fun r => r = sl b0 (aE p)):=by
 have hn := gZ p.body
 refine aC Tryz.func109 Tryz.ntmps109 ?_
 repeat' (first|(apply aH;first|(apply aY (t := _);rfl;rfl;rfl;(exact (rfl:_=some [_,_,_,_,_]));rfl;rfl)|(apply m9;rfl;rfl;(apply oM <;> (assumption));rfl;rfl))|refine aF ?_|fail)
 (refine bW (Le.frzD (d := 2) (i := 3) rfl rfl) ?_; refine aO rfl ?_)
 refine ⟨?_,?_⟩
 ·simp only [aQ,sl,aE,List.length_append,List.length_cons,List.length_nil,bK,Nat.zero_add]
 ·(exact bD _ _)
theorem pT {l:List AL.Stmt}{pts:List Pnt}{m:Nat}{x0 x1:Operand}{i0:Nat}(ha0:ev (lk tsl) x0 = some (.own i0 0 m 5)) (ha1:ev (lk tsl) x1 = some (sl aB l)) (hH0:aP hsl i0 = some (flat b0 pts)) (hmc:MC Tryz.prog 74 [.own 0 0 m 5,sl aB l] [(0,some (flat b0 pts))] 1 (fun _:Unit => True) (fun _ => .own 1 0 (m + b8 l) 5) (fun _ => [(1,some (flat b0 (pts ++ gA pts.length l)))])) (hM:Nat.ble (nidl + 1) aX = true) (hN:Nat.blt d N = true){md':Md}[hmd:MdA md (jS [x0,x1] ++ [.inr i0]) (List.map Sum.inr (List.map Prod.fst ([(nidl,some (flat b0 (pts ++ gA pts.length l))),(i0,none)]:List (Nat × Option (List AV)))) ++ [.inl d]) md'] (kk:RW Tryz.prog N all Q md' rest ⟨(d,.own nidl 0 (m + b8 l) 5) :: tsl,mY hsl [(nidl,some (flat b0 (pts ++ gA pts.length l))),(i0,none)],nidl + 1,z0⟩):RW Tryz.prog N all Q md (⟨some d,.call ⟨.value (.func 74),#[x0,x1],tys⟩,ty,pos,af,none⟩ :: rest) ⟨tsl,hsl,nidl,z0⟩:=by
 exact cG (l := [x0,x1]) [i0] 2 [(nidl,some (flat b0 (pts ++ gA pts.length l))),(i0,none)] hmc (avs := [.own i0 0 m 5,sl aB l]) (by simp only [evL,ha0,ha1]) rfl hM hN (md' := md') (hmd := hmd) kk
theorem E6 (mm:Nat) (hmm:mm ≤ 1048576) (l2Add_ih:∀ l pts m,aI l < mm → m = pts.length → m + b8 l ≤ 13000000 → MC Tryz.prog 74 [.own 0 0 m 5,sl aB l] [(0,some (flat b0 pts))] 1 (fun _:Unit => True) (fun _ => .own 1 0 (m + b8 l) 5) (fun _ => [(1,some (flat b0 (pts ++ gA pts.length l)))])) (l:List AL.Stmt) (pts:List Pnt) (m:Nat) (hs:aI l ≤ mm) (hm:m = pts.length) (hb:m + b8 l ≤ 13000000):MC Tryz.prog 74 [.own 0 0 m 5,sl aB l] [(0,some (flat b0 pts))] 1 (fun _:Unit => True) (fun _ => .own 1 0 (m + b8 l) 5) (fun _ => [(1,some (flat b0 (pts ++ gA pts.length l)))]):=by
 have hlen := bR l
 subst hm
 refine c8 Tryz.func74 Tryz.ntmps74 ?_
 repeat' (first|refine aF ?_|fail)
 refine AW.le ?_ (Le.mv (d := 0) (i := 0) (cs := flat b0 pts) rfl rfl (by decide))
 refine aL (σ := Nat × List Pnt × Nat) [1] [] (fun k => [(5,iv (k.1 : Int)),(0,.own 1 0 k.2.2 5)]) (fun k => [(1,some (flat b0 k.2.1))]) (fun k => k.1 ≤ l.length ∧ k.2.1 = pts ++ gA pts.length (l.take k.1) ∧ k.2.2 = k.2.1.length ∧ k.2.2 = pts.length + b8 (l.take k.1)) (fun k => l.length - k.1) (0,pts,pts.length) ⟨by omega,by simp [gA],rfl,by simp [b8]⟩ ?_
 rintro ⟨k,xs,m1⟩ ⟨hk,hxs,hm1,hm2⟩
 dsimp only at hk hxs hm1 hm2 ⊢
 have hck := cZ l k
 have hct := dX l[k]!
 have hnt := zD l k
 have n9 := FJ l[k]!
 have n10 := AB l[k]!
 have n1 := E4 l[k]!
 repeat' (first|(apply aH;first|(apply aY (t := _);rfl;rfl;rfl;(first|exact (rfl:_=some [_])|exact (rfl:_=some [_,_])|exact (rfl:_=some [_,_,_,_,_]));rfl;rfl)|(apply pT;rfl;rfl;(rfl);(apply l2Add_ih <;> (first|omega|(simp only [kD] <;> omega)));rfl;rfl))|refine aF ?_|(refine aU ?_ ?_ <;> intro hc hq <;> try (exfalso;omega))|fail)
 ·(refine bS (k + 1, _, _) (Le.renA [(1, 8)]) ?_ ?_)
  ·dsimp only
   rw [tG (by rw [bK,hm1]),vG (by rw [bK,hm1]),uQ hm1,vC hm1,fH l _ k (by omega),eN l k (by omega),gS,if_pos hq,n9 hq]
   refine ⟨by omega,?_,by simp [bK]; omega,by omega⟩
   have e1 : xs.length = pts.length + b8 (l.take k) := by omega
   rw [← List.append_assoc pts,← hxs,← e1]
   simp only [List.append_assoc,List.length_append,List.length_cons,List.length_nil,bK,hm1,Nat.zero_add]
   clear l2Add_ih hxs hck hnt n9 n10 n1
   grind
  ·dsimp only;omega
 ·(refine bS (k + 1, _, _) (Le.renA [(1, 8)]) ?_ ?_)
  ·dsimp only
   rw [y9 hm1,yX hm1,fH l _ k (by omega),eN l k (by omega),gS,if_neg (by omega),if_pos hq,n10 hq]
   refine ⟨by omega,?_,by simp [bK]; omega,by omega⟩
   have e1 : xs.length = pts.length + b8 (l.take k) := by omega
   rw [← List.append_assoc pts,← hxs,← e1]
   simp only [List.append_assoc,List.length_append,List.length_cons,List.length_nil,bK,hm1,Nat.zero_add]
   clear l2Add_ih hxs hck hnt n9 n10 n1
   grind
  ·dsimp only;omega
 ·(refine bS (k + 1, _, _) (Le.renA [(1, 5)]) ?_ ?_)
  ·dsimp only
   rw [fH l _ k (by omega),eN l k (by omega),gS,if_neg ‹¬l[k]!.op = 9›,if_neg hq,n1 ‹¬l[k]!.op = 9› hq]
   refine ⟨by omega,?_,by simp [bK]; omega,by omega⟩
   have e1 : xs.length = pts.length + b8 (l.take k) := by omega
   rw [← List.append_assoc pts,← hxs,← e1,hm1]
  ·dsimp only;omega
 ·refine aO rfl ?_
  have e2 : l.take k = l := List.take_of_length_le (by omega)
  rw [e2] at hxs hm2
  refine eS () trivial ?_ ⟨sE ?_,trivial⟩
  ·simp only [aQ]; rw [hm2]
  ·rw [hxs]
theorem BL (l:List AL.Stmt) (pts:List Pnt) (m:Nat) (hs:aI l ≤ 1048576) (hm:m = pts.length) (hb:m + b8 l ≤ 13000000):MC Tryz.prog 74 [.own 0 0 m 5,sl aB l] [(0,some (flat b0 pts))] 1 (fun _:Unit => True) (fun _ => .own 1 0 (m + b8 l) 5) (fun _ => [(1,some (flat b0 (pts ++ gA pts.length l)))]):=by
 have h : ∀ (mm : Nat), mm ≤ 1048576 → ∀ l pts m, aI l ≤ mm → m = pts.length → m + b8 l ≤ 13000000 → MC Tryz.prog 74 [.own 0 0 m 5, sl aB l] [(0, some (flat b0 pts))] 1 (fun _ : Unit => True) (fun _ => .own 1 0 (m + b8 l) 5) (fun _ => [(1, some (flat b0 (pts ++ gA pts.length l)))]) := by
  intro mm
  induction mm using Nat.strongRecOn with
  | ind mm ih =>
   intro h0 l pts m h1 h2 h3
   exact E6 mm h0 (fun l' pts' m' g1 g2 g3 => ih _ g1 (by omega) l' pts' m' (Nat.le_refl _) g2 g3) l pts m h1 h2 h3
 exact h _ hs l pts m (Nat.le_refl _) hm hb
theorem jT (p:Prg) (hs:aI p.body ≤ 1048576):PC Tryz.prog 27 [bY p] (fun r => r = sl b0 (aE p)):=by
 have hn := gZ p.body
 have e0 : ([] : List AV) = flat b0 [] := rfl
 refine aC Tryz.func27 Tryz.ntmps27 ?_
 repeat' (first|(apply aH;(apply pT;rfl;rfl;(exact sX rfl);(apply BL <;> (first|assumption|omega|(simp only [kD] <;> omega)));rfl;rfl))|refine aF ?_|fail)
 (refine bW (Le.frzD (d := 2) (i := 4) rfl rfl) ?_; refine aO rfl ?_)
 refine ⟨?_,(by (exact bD _ _))⟩
 simp only [aQ,sl,aE,List.length_append,List.length_cons,List.length_nil,bK,Nat.zero_add,List.nil_append]
theorem A2 (ts:List Int) (bd:List AL.Stmt) (pts:List Pnt) (v:Int) (h:0 ≤ v ∧ v < ts.length):PC Tryz.prog 201 [aG ts bd pts,iv v] (fun r => r = bv (HT ts[v.toNat]!)):=by
 refine aC Tryz.func201 Tryz.ntmps201 ?_
 repeat' (first|refine aF ?_|(refine cE ?_ ?_ <;> intro hg hq <;> try (exfalso;omega))|refine dB ?_|fail)
 all_goals (refine ⟨?_,rfl⟩; simp only [aQ,AV.v.injEq,Value.bool.injEq,Value.int.injEq,true_and])
 all_goals grind [HT]
theorem JM (ts:List Int) (bd:List AL.Stmt) (pts:List Pnt) (x:Pnt) (v:Int) (h:0 ≤ v ∧ v < ts.length):PC Tryz.prog 188 [aG ts bd pts,n7 x,iv v] (fun r => r = iv (aZ ts x v)):=by
 refine aC Tryz.func188 Tryz.ntmps188 ?_
 repeat' (first|(apply aH;(apply aA (k := 201);rfl;(apply A2 <;> (assumption));exact Pur.pf;rfl))|refine aF ?_|(refine aU ?_ ?_ <;> intro hc hq <;> try (exfalso;omega))|(refine cE ?_ ?_ <;> intro hg hq <;> try (exfalso;omega))|refine dB ?_|fail)
 all_goals (refine ⟨?_,rfl⟩; simp only [aQ,AV.v.injEq,Value.bool.injEq,Value.int.injEq,true_and])
 all_goals grind [HT,aZ]
theorem uI (x:Pnt):PC Tryz.prog 183 [n7 x] (fun r => r = iv (aT x)):=by
 refine aC Tryz.func183 Tryz.ntmps183 ?_
 repeat' (first|refine aF ?_|(refine aU ?_ ?_ <;> intro hc hq <;> try (exfalso;omega))|refine dB ?_|fail)
 all_goals (refine ⟨?_,rfl⟩; simp only [aQ,AV.v.injEq,Value.bool.injEq,Value.int.injEq,true_and])
 all_goals grind [aT]
theorem kV (x:Pnt):PC Tryz.prog 184 [n7 x] (fun r => r = bv (bU x)):=by
 refine aC Tryz.func184 Tryz.ntmps184 ?_
 repeat' (first|refine aF ?_|(refine cE ?_ ?_ <;> intro hg hq <;> try (exfalso;omega))|refine dB ?_|fail)
 all_goals (refine ⟨?_,rfl⟩; simp only [aQ,AV.v.injEq,Value.bool.injEq,Value.int.injEq,true_and])
 all_goals grind [bU]
theorem mP (x:Pnt) (h:aT x < 62):PC Tryz.prog 178 [n7 x] (fun r => r = iv (fY x:Nat)):=by
 refine aC Tryz.func178 Tryz.ntmps178 ?_
 repeat' (first|(apply aH;first|(apply iQ;rfl;rfl;infer_instance;omega;rfl;(case' kk => intro hsm))|(apply aA (k := 183);rfl;(apply uI);exact Pur.pf;rfl))|refine aF ?_|(refine aU ?_ ?_ <;> intro hc hq <;> try (exfalso;omega))|refine dB ?_|fail)
 all_goals (refine ⟨?_,rfl⟩; simp only [aQ,AV.v.injEq,Value.bool.injEq,Value.int.injEq,true_and])
 all_goals (unfold fY)
 ·rw [if_pos (by omega)]
 ·rw [if_neg (by omega)]; rfl
theorem JX (ts:List Int) (bd:List AL.Stmt) (pts:List Pnt) (h:ts.length ≤ 6):PC Tryz.prog 176 [aG ts bd pts] (fun r => r = iv ((2 ^ ts.length - 1:Nat):Int)):=by
 have h1 : 2 ^ ts.length ≤ 2 ^ 6 := Nat.pow_le_pow_right (by decide) h
 have h2 : 0 < 2 ^ ts.length := Nat.pow_pos (by decide)
 have h3 : 2 ^ (ts.length : Int).toNat ≤ 2 ^ 6 := h1
 have h4 : 2 ^ (ts.length : Int).toNat = 2 ^ ts.length := rfl
 refine aC Tryz.func176 Tryz.ntmps176 ?_
 repeat' (first|(apply aH;(apply iQ;rfl;rfl;infer_instance;omega;rfl;(case' kk => intro hsm)))|refine aF ?_|refine dB ?_|fail)
 all_goals (refine ⟨?_,rfl⟩; simp only [aQ,AV.v.injEq,Value.bool.injEq,Value.int.injEq,true_and])
 omega
def E9 (xs : List Int) (v : Int) : Int := match xs.findIdx? (fun t => decide (t = v)) with | some i => i | none => -1
theorem Gx (xs:List Int) (v:Int) (hl:xs.length ≤ 1048576):PC Tryz.prog 99 [sl cI xs,iv v] (fun r => r = iv (E9 xs v)):=by
 refine aC Tryz.func99 Tryz.ntmps99 ?_
 repeat' (first|refine aF ?_|fail)
 refine aL (σ := Nat) [0,1,7] [] (fun k => [(8,iv (k : Int))]) (fun k => []) (fun k => k ≤ xs.length ∧ ∀ i,i < k → xs[i]! ≠ v) (fun k => xs.length - k) (0) ⟨by omega,by omega⟩ ?_
 intro k ⟨hk,hall⟩
 repeat' (first|refine aF ?_|(refine aU ?_ ?_ <;> intro hc hq <;> try (exfalso;omega))|refine dB ?_|fail)
 ·(refine ⟨?_, rfl⟩; simp only [aQ, AV.v.injEq, Value.bool.injEq, Value.int.injEq, true_and])
  have hlt : k < xs.length := by omega
  have : xs.findIdx? (fun t => decide (t = v)) = some k := by
   rw [List.findIdx?_eq_some_iff_getElem]
   refine ⟨hlt,?_,fun j hj => ?_⟩
   ·rw [← bF xs k hlt]; grind
   ·have := hall j hj;rw [bF xs j (by omega)] at this;simpa using this
  simp only [E9,this]
 ·(refine bS (k + 1) (Le.renA []) ?_ ?_)
  ·grind
  ·omega
 ·(refine ⟨?_, rfl⟩; simp only [aQ, AV.v.injEq, Value.bool.injEq, Value.int.injEq, true_and])
  have : xs.findIdx? (fun t => decide (t = v)) = none := by
   rw [List.findIdx?_eq_none_iff]
   intro x hx
   obtain ⟨i,hi,rfl⟩ := List.getElem_of_mem hx
   have := hall i (by omega);rw [bF xs i hi] at this;simpa using this
  simp only [E9,this]
theorem G9 (xs:List Int) (v:Int):decide (0 ≤ E9 xs v) = decide (v ∈ xs):=by
 unfold E9
 split
 ·rename_i i h
  obtain ⟨h1,h2,_⟩ := List.findIdx?_eq_some_iff_getElem.1 h
  simp only [decide_eq_true_eq] at h2
  have : v ∈ xs := by rw [← h2]; exact List.getElem_mem h1
  simp [this]
 ·rename_i h
  rw [List.findIdx?_eq_none_iff] at h
  have : v ∉ xs := fun hm => by have := h v hm;simp at this
  simp [this]
theorem pY (xs:List Int) (v:Int) (hl:xs.length ≤ 1048576):PC Tryz.prog 57 [sl cI xs,iv v] (fun r => r = bv (decide (v ∈ xs))):=by
 refine aC Tryz.func57 Tryz.ntmps57 ?_
 repeat' (first|(apply aH;(apply aA (k := 99);rfl;(apply Gx <;> (assumption));exact Pur.pf;rfl))|refine aF ?_|refine dB ?_|fail)
 (refine ⟨?_,rfl⟩; simp only [aQ,AV.v.injEq,Value.bool.injEq,Value.int.injEq,true_and])
 exact G9 xs v
theorem Bs (ts:List Int) (bd:List AL.Stmt) (pts:List Pnt) (x:Pnt) (us:List Int) (h:ts.length ≤ 6) (hu:us.length ≤ 1000):PC Tryz.prog 157 [aG ts bd pts,n7 x,sl cI us] (fun r => r = iv (wS ts x us:Nat)):=by
 refine aC Tryz.func157 Tryz.ntmps157 ?_
 repeat' (first|refine aF ?_|fail)
 refine aL (σ := Nat × Nat) [0,2,4,14] [0] (fun k => [(15,iv (k.1 : Int)),(7,iv (k.2 : Int))]) (fun k => []) (fun k => k.1 ≤ ts.length ∧ k.2 = eF (fun v => decide (aZ ts x v ∈ us)) k.1) (fun k => ts.length - k.1) (0,0) ⟨by omega,rfl⟩ ?_
 rintro ⟨k,A⟩ ⟨hk,hA⟩
 dsimp only at hk hA ⊢
 have hsm : Sm A := hA ▸ dP (by omega)
 repeat' (first|(apply aH;first|(apply iQ;rfl;rfl;infer_instance;omega;rfl;(case' kk => intro hsm))|(first|(apply aA (k := 57);rfl;(apply pY <;> (omega));exact Pur.pf;rfl)|(apply aA (k := 188);rfl;(apply JM <;> (omega));exact Pur.pf;rfl)))|refine aF ?_|(refine aU ?_ ?_ <;> intro hc hq <;> try (exfalso;omega))|refine dB ?_|fail)
 ·(refine bS (k + 1, _) (Le.renA [(0, 0)]) ?_ ?_)
  ·dsimp only
   rw [hA]
   exact ⟨by omega,oO _ _ (by simpa using hq)⟩
  ·dsimp only;omega
 ·(refine bS (k + 1, _) (Le.renA [(0, 0)]) ?_ ?_)
  ·dsimp only
   rw [hA]
   exact ⟨by omega,lC _ _ (by simpa using hq)⟩
  ·dsimp only;omega
 ·(refine ⟨?_, rfl⟩; simp only [aQ, AV.v.injEq, Value.bool.injEq, Value.int.injEq, true_and])
  rw [hA,show k = ts.length by omega]; rfl
theorem Dj (ts:List Int) (bd:List AL.Stmt) (pts:List Pnt) (x:Pnt) (h:ts.length ≤ 6):PC Tryz.prog 116 [aG ts bd pts,n7 x] (fun r => r = iv (wS ts x [1,2,3]:Nat)):=by
 refine aC Tryz.func116 Tryz.ntmps116 ?_
 repeat' (first|(apply aH;first|(apply aY (t := _);rfl;rfl;rfl;(exact (rfl:_=some [_,_,_]));rfl;rfl)|(apply aA (k := 157);rfl;(apply Bs (us := [1,2,3]) <;> (first|assumption|decide));exact Pur.pf;rfl))|refine aF ?_|refine dB ?_|fail)
 (refine ⟨?_,rfl⟩; simp only [aQ,AV.v.injEq,Value.bool.injEq,Value.int.injEq,true_and])
theorem pB (ts:List Int) (bd:List AL.Stmt) (pts:List Pnt) (x:Pnt) (h:ts.length ≤ 6):PC Tryz.prog 177 [aG ts bd pts,n7 x] (fun r => r = iv (wS ts x [2]:Nat)):=by
 refine aC Tryz.func177 Tryz.ntmps177 ?_
 repeat' (first|(apply aH;first|(apply aY (t := _);rfl;rfl;rfl;exact (rfl:_=some [_]);rfl;rfl)|(apply aA (k := 157);rfl;(apply Bs (us := [2]) <;> (first|assumption|decide));exact Pur.pf;rfl))|refine aF ?_|refine dB ?_|fail)
 (refine ⟨?_,rfl⟩; simp only [aQ,AV.v.injEq,Value.bool.injEq,Value.int.injEq,true_and])
theorem wM (ts:List Int) (bd:List AL.Stmt) (pts:List Pnt) (i:Int) (A:Nat) (h:WG ts pts) (hi:0 ≤ i ∧ i < pts.length) (hA:Sm A):PC Tryz.prog 142 [aG ts bd pts,iv i,iv (A:Int)] (fun r => r = iv (gC ts pts[i.toNat]! A:Nat)):=by
 have htl := h.tl
 have hst := (h.set i.toNat (by omega)).1
 have hs1 : Sm (wS ts pts[i.toNat]! [2]) := dP (by omega)
 have hs2 : Sm (fY pts[i.toNat]!) := pG (by omega)
 refine aC Tryz.func142 Tryz.ntmps142 ?_
 repeat' (first|(apply aH;(first|(apply aA (k := 177);rfl;(apply pB <;> (assumption));exact Pur.pf;rfl)|(apply aA (k := 178);rfl;(apply mP <;> (omega));exact Pur.pf;rfl)))|refine aF ?_|refine dC ?_|refine dB ?_|fail)
 (refine ⟨?_,rfl⟩; simp only [aQ,AV.v.injEq,Value.bool.injEq,Value.int.injEq,true_and])
 rfl
theorem zO (ts:List Int) (bd:List AL.Stmt) (pts:List Pnt) (A:List Nat) (w:WG ts pts) (hA:oT ts pts A):PC Tryz.prog 141 [aG ts bd pts,iv 0,bv false,.clos (.func 142) [aG ts bd pts] []] (fun r => r = .imm pts.length (flat cN A)):=by
 have hpl := w.pl
 have hp0 := w.p0
 have htl := w.tl
 have fl := JZ w
 refine aC Tryz.func141 Tryz.ntmps141 ?_
 repeat' (first|refine aF ?_|fail)
 refine aL (σ := List Nat × Bool) [0,2,3,9] [] (fun s => [(11,bv s.2)]) (fun s => [(0,some (flat cN s.1))]) (fun s => SG pts (Jz ts pts) s.1 ∧ True ∧ (s.2 = false → j4 mI (fun i A => gC ts pts[i]! A) pts s.1)) (fun s => 2 * eI (s.1.map (fun a => 2 ^ ts.length - a)) + s.2.toNat) (((List.replicate pts.length 0).set 0 0),true) ⟨by rw [wW (by rw [bF _ _ (by simpa using hp0),List.getElem_replicate]) (by simpa using hp0)]; exact Aj fun i hi => ⟨Nat.pow_pos (by decide),fun v h => by simp at h⟩,trivial,fun h => by cases h⟩ ?_
 rintro ⟨s,b⟩ ⟨hS,hE,hC⟩
 dsimp only at hS hE hC ⊢
 repeat' (first|refine aF ?_|(refine aU ?_ ?_ <;> intro hc hq <;> try (exfalso;omega))|fail)
 ·refine aL (σ := Nat × (List Nat × Bool)) [0, 2, 3, 9, 43, 44] [] (fun k => [(45, iv (k.1 : Int)), (11, bv k.2.2)]) (fun k => [(0, some (flat cN k.2.1))]) (fun k => k.1 ≤ pts.length ∧ k.2 = (List.range k.1).foldl (tX mI (fun i A => gC ts pts[i]! A) pts) (s, false) ∧ SG pts (Jz ts pts) k.2.1 ∧ True) (fun k => pts.length - k.1) (0, (s, false)) ⟨by omega, rfl, hS, hE⟩ ?_
  rintro ⟨k,u,c⟩ ⟨hk,hf,hS2,hE2⟩
  dsimp only at hk hf hS2 hE2 ⊢
  have hsm : ∀ z,Sm u[z]! := qR hS2 (fun i A h => h.1) htl
  have hul := hS2.1
  repeat' (first|(apply aH;(apply nN;rfl;rfl;infer_instance;rfl;(apply wM <;> (first|assumption|omega|infer_instance));exact Pur.pf;rfl))|refine aF ?_|(refine aU ?_ ?_ <;> intro hc hq <;> try (exfalso;omega))|fail)
  ·have hkn : k < pts.length := by omega
   have hv := o9 w hkn (hS2.2 k hkn).1
   have hvs : Sm (gC ts pts[k]! u[k]!) := ⟨Nat.lt_of_lt_of_le hv (Nat.pow_le_pow_right (by decide) (by omega))⟩
   have hvs' : Sm (gC ts pts[(k : Int).toNat]! u[k]!) := hvs
   have hnl := w.nl k hkn
   refine aL (σ := Nat × (List Nat × Bool)) [0,2,3,9,14,43,44,45,58,59] [] (fun j => [(60,iv (j.1 : Int)),(11,bv j.2.2)]) (fun j => [(0,some (flat cN j.2.1))]) (fun j => j.1 ≤ pts[k]!.next.length ∧ j.2 = ((rC pts k).take j.1).foldl (jY mI (gC ts pts[k]! u[k]!)) (u,c) ∧ SG pts (Jz ts pts) j.2.1 ∧ True) (fun j => pts[k]!.next.length - j.1) (0,(u,c)) ⟨by omega,rfl,hS2,hE2⟩ ?_
   rintro ⟨j,u2,c2⟩ ⟨hj,hf2,hS3,hE3⟩
   dsimp only at hj hf2 hS3 hE3 ⊢
   have hsm2 : ∀ z,Sm u2[z]! := qR hS3 (fun i A h => h.1) htl
   have hul2 := hS3.1
   have hz : j < pts[k]!.next.length → 0 ≤ pts[k]!.next[j]! ∧ pts[k]!.next[j]! < pts.length := fun h => w.nx k hkn _ (bT _ _ h)
   repeat' (first|refine aF ?_|(refine aU ?_ ?_ <;> intro hc hq <;> try (exfalso;omega))|fail)
   ·have hzz := hz (by omega)
    have hed : c9 pts k (pts[k]!.next[j]!).toNat := ⟨hkn,by rw [Int.toNat_of_nonneg hzz.1]; exact bT _ _ (by omega)⟩
    have hne : mI u2[(pts[k]!.next[j]!).toNat]! (gC ts pts[k]! u[k]!) ≠ u2[(pts[k]!.next[j]!).toNat]! := fun h => hq (congrArg Int.ofNat h)
    (refine bS (j + 1,(_,true)) (Le.renA [(0,0)]) ?_ ?_)
    ·dsimp only
     refine ⟨by omega,?_,uC fl w (hS2.2 k hkn) hed hS3,trivial⟩
     rw [gX (by omega),← hf2,tH hne]; rfl
    ·dsimp only;omega
   ·have hzz := hz (by omega)
    have hne : mI u2[(pts[k]!.next[j]!).toNat]! (gC ts pts[k]! u[k]!) = u2[(pts[k]!.next[j]!).toNat]! := Int.ofNat.inj hq
    (refine bS (j + 1,(u2,c2)) (Le.renA [(0,0)]) ?_ ?_)
    ·dsimp only
     refine ⟨by omega,?_,hS3,hE3⟩
     rw [gX (by omega),← hf2,vI hne]
    ·dsimp only;omega
   ·(refine bS (k + 1, (u2, c2)) (Le.renA [(0, 0)]) ?_ ?_)
    ·dsimp only
     refine ⟨by omega,?_,hS3,hE3⟩
     rw [dD,← hf,hf2,List.take_of_length_le (by rw [j8]; omega)]; rfl
    ·dsimp only;omega
  ·have law := pV w fl s false hS
   have hfull : (u, c) = uX mI (fun i A => gC ts pts[i]! A) pts (s, false) := by
    rw [hf,show k = pts.length by omega]; rfl
   rw [show uX (fun a s => mI a s) (fun i A => gC ts pts[i]! A) pts (s,false) = (u,c) from hfull.symm] at law
   (refine bS (u,c) (Le.renA [(0,0)]) ?_ ?_)
   ·dsimp only
    refine ⟨hS2,hE2,fun h => ?_⟩
    rcases law.2 with ⟨e1,e2⟩ | ⟨e1,_⟩
    ·cases e1;exact e2
    ·dsimp only at e1;rw [h] at e1;cases e1
   ·dsimp only
    have hb : b = true := by assumption
    subst hb
    rcases law.2 with ⟨e1,e2⟩ | ⟨e1,e2⟩
    ·cases e1;simp
    ·dsimp only at e1 e2;subst e1;omega
 ·have hb : b = false := by assumption
  refine bW (Le.frzD (d := 8) (i := 0) rfl rfl) ?_
  refine aO rfl ⟨?_,(by (exact bD _ _))⟩
  simp only [aQ]
  rw [C4 hA (Eo w hS (hC hb))]
theorem y6 (ts:List Int) (bd:List AL.Stmt) (pts:List Pnt) (A:List Nat) (w:WG ts pts) (hA:oJ ts pts A):PC Tryz.prog 141 [aG ts bd pts,iv 0,bv true,.clos (.func 142) [aG ts bd pts] []] (fun r => r = .imm pts.length (flat cN A)):=by
 have hpl := w.pl
 have hp0 := w.p0
 have htl := w.tl
 have fl := Jy w
 refine aC Tryz.func141 Tryz.ntmps141 ?_
 repeat' (first|refine aF ?_|fail)
 refine aL (σ := Nat × List Nat) [0,1,2,3,9,26] [] (fun k => [(27,iv (k.1 : Int))]) (fun k => [(0,some (flat cN k.2))]) (fun k => k.1 ≤ pts.length ∧ k.2 = List.replicate k.1 (2 ^ ts.length - 1) ++ List.replicate (pts.length - k.1) 0) (fun k => pts.length - k.1) (0,List.replicate pts.length 0) ⟨by omega,by simp⟩ ?_
 rintro ⟨k0,u0⟩ ⟨hk0,hu0⟩
 dsimp only at hk0 hu0 ⊢
 have hul0 : u0.length = pts.length := by rw [hu0]; simp;omega
 repeat' (first|(apply aH;(apply aA (k := 176);rfl;(apply JX <;> (assumption));exact Pur.pf;rfl))|refine aF ?_|(refine aU ?_ ?_ <;> intro hc hq <;> try (exfalso;omega))|fail)
 ·(refine bS (k0 + 1, _) (Le.renA [(0, 0)]) ?_ ?_)
  ·dsimp only
   exact ⟨by omega,by rw [hu0]; exact Hd (by omega)⟩
  ·dsimp only;omega
 have hk1 : k0 = pts.length := by omega
 subst hk1
 rw [Nat.sub_self,List.replicate_zero,List.append_nil] at hu0
 refine aL (σ := List Nat × Bool) [0,2,3,9] [] (fun s => [(11,bv s.2)]) (fun s => [(0,some (flat cN s.1))]) (fun s => SG pts (Jv ts pts) s.1 ∧ s.1[0]! = 0 ∧ (s.2 = false → j4 Ij (fun i A => gC ts pts[i]! A) pts s.1)) (fun s => 2 * eI (s.1.map (fun a => a)) + s.2.toNat) ((u0.set 0 0),true) ⟨(EL w hu0).1,(EL w hu0).2,fun h => by cases h⟩ ?_
 rintro ⟨s,b⟩ ⟨hS,hE,hC⟩
 dsimp only at hS hE hC ⊢
 repeat' (first|refine aF ?_|(refine aU ?_ ?_ <;> intro hc hq <;> try (exfalso;omega))|fail)
 ·refine aL (σ := Nat × (List Nat × Bool)) [0, 2, 3, 9, 43, 44] [] (fun k => [(45, iv (k.1 : Int)), (11, bv k.2.2)]) (fun k => [(0, some (flat cN k.2.1))]) (fun k => k.1 ≤ pts.length ∧ k.2 = (List.range k.1).foldl (tX Ij (fun i A => gC ts pts[i]! A) pts) (s, false) ∧ SG pts (Jv ts pts) k.2.1 ∧ k.2.1[0]! = 0) (fun k => pts.length - k.1) (0, (s, false)) ⟨by omega, rfl, hS, hE⟩ ?_
  rintro ⟨k,u,c⟩ ⟨hk,hf,hS2,hE2⟩
  dsimp only at hk hf hS2 hE2 ⊢
  have hsm : ∀ z,Sm u[z]! := qR hS2 (fun i A h => h.1) htl
  have hul := hS2.1
  repeat' (first|(apply aH;(apply nN;rfl;rfl;infer_instance;rfl;(apply wM <;> (first|assumption|omega|infer_instance));exact Pur.pf;rfl))|refine aF ?_|(refine aU ?_ ?_ <;> intro hc hq <;> try (exfalso;omega))|fail)
  ·have hkn : k < pts.length := by omega
   have hv := o9 w hkn (hS2.2 k hkn).1
   have hvs : Sm (gC ts pts[k]! u[k]!) := ⟨Nat.lt_of_lt_of_le hv (Nat.pow_le_pow_right (by decide) (by omega))⟩
   have hvs' : Sm (gC ts pts[(k : Int).toNat]! u[k]!) := hvs
   have hnl := w.nl k hkn
   refine aL (σ := Nat × (List Nat × Bool)) [0,2,3,9,14,43,44,45,58,59] [] (fun j => [(60,iv (j.1 : Int)),(11,bv j.2.2)]) (fun j => [(0,some (flat cN j.2.1))]) (fun j => j.1 ≤ pts[k]!.next.length ∧ j.2 = ((rC pts k).take j.1).foldl (jY Ij (gC ts pts[k]! u[k]!)) (u,c) ∧ SG pts (Jv ts pts) j.2.1 ∧ j.2.1[0]! = 0) (fun j => pts[k]!.next.length - j.1) (0,(u,c)) ⟨by omega,rfl,hS2,hE2⟩ ?_
   rintro ⟨j,u2,c2⟩ ⟨hj,hf2,hS3,hE3⟩
   dsimp only at hj hf2 hS3 hE3 ⊢
   have hsm2 : ∀ z,Sm u2[z]! := qR hS3 (fun i A h => h.1) htl
   have hul2 := hS3.1
   have hz : j < pts[k]!.next.length → 0 ≤ pts[k]!.next[j]! ∧ pts[k]!.next[j]! < pts.length := fun h => w.nx k hkn _ (bT _ _ h)
   repeat' (first|refine aF ?_|(refine aU ?_ ?_ <;> intro hc hq <;> try (exfalso;omega))|fail)
   ·have hzz := hz (by omega)
    have hed : c9 pts k (pts[k]!.next[j]!).toNat := ⟨hkn,by rw [Int.toNat_of_nonneg hzz.1]; exact bT _ _ (by omega)⟩
    have hne : Ij u2[(pts[k]!.next[j]!).toNat]! (gC ts pts[k]! u[k]!) ≠ u2[(pts[k]!.next[j]!).toNat]! := fun h => hq (congrArg Int.ofNat h)
    (refine bS (j + 1,(_,true)) (Le.renA [(0,0)]) ?_ ?_)
    ·dsimp only
     refine ⟨by omega,?_,uC fl w (hS2.2 k hkn) hed hS3,(by rw [cR _ _ _ _ (by rw [hS3.1]; exact cX w hed)]; split <;> first|exact hE3|(rename_i q;rw [← q,hE3]; exact Nat.zero_and _))⟩
     rw [gX (by omega),← hf2,tH hne]; rfl
    ·dsimp only;omega
   ·have hzz := hz (by omega)
    have hne : Ij u2[(pts[k]!.next[j]!).toNat]! (gC ts pts[k]! u[k]!) = u2[(pts[k]!.next[j]!).toNat]! := Int.ofNat.inj hq
    (refine bS (j + 1,(u2,c2)) (Le.renA [(0,0)]) ?_ ?_)
    ·dsimp only
     refine ⟨by omega,?_,hS3,hE3⟩
     rw [gX (by omega),← hf2,vI hne]
    ·dsimp only;omega
   ·(refine bS (k + 1, (u2, c2)) (Le.renA [(0, 0)]) ?_ ?_)
    ·dsimp only
     refine ⟨by omega,?_,hS3,hE3⟩
     rw [dD,← hf,hf2,List.take_of_length_le (by rw [j8]; omega)]; rfl
    ·dsimp only;omega
  ·have law := pV w fl s false hS
   have hfull : (u, c) = uX Ij (fun i A => gC ts pts[i]! A) pts (s, false) := by
    rw [hf,show k = pts.length by omega]; rfl
   rw [show uX (fun a s => Ij a s) (fun i A => gC ts pts[i]! A) pts (s,false) = (u,c) from hfull.symm] at law
   (refine bS (u,c) (Le.renA [(0,0)]) ?_ ?_)
   ·dsimp only
    refine ⟨hS2,hE2,fun h => ?_⟩
    rcases law.2 with ⟨e1,e2⟩ | ⟨e1,_⟩
    ·cases e1;exact e2
    ·dsimp only at e1;rw [h] at e1;cases e1
   ·dsimp only
    have hb : b = true := by assumption
    subst hb
    rcases law.2 with ⟨e1,e2⟩ | ⟨e1,e2⟩
    ·cases e1;simp
    ·dsimp only at e1 e2;subst e1;omega
 ·have hb : b = false := by assumption
  refine bW (Le.frzD (d := 8) (i := 0) rfl rfl) ?_
  refine aO rfl ⟨?_,(by (exact bD _ _))⟩
  simp only [aQ]
  rw [CE hA (FA w hS hE (hC hb))]
theorem yL (ts:List Int) (bd:List AL.Stmt) (pts:List Pnt) (A:List Nat) (w:WG ts pts) (hA:oJ ts pts A):PC Tryz.prog 101 [aG ts bd pts,iv 0] (fun r => r = .imm pts.length (flat cN A)):=by
 refine aC Tryz.func101 Tryz.ntmps101 ?_
 repeat' (first|(apply aH;(apply aA (k := 141);rfl;exact y6 ts bd pts A w hA;exact Pur.pf;rfl))|refine aF ?_|refine dB ?_|fail)
 exact ⟨rfl,(by (exact bD _ _))⟩
theorem Hh (ts:List Int) (bd:List AL.Stmt) (pts:List Pnt) (A:List Nat) (w:WG ts pts) (hA:oT ts pts A):PC Tryz.prog 149 [aG ts bd pts] (fun r => r = .imm pts.length (flat cN A)):=by
 refine aC Tryz.func149 Tryz.ntmps149 ?_
 repeat' (first|(apply aH;(apply aA (k := 141);rfl;exact zO ts bd pts A w hA;exact Pur.pf;rfl))|refine aF ?_|refine dB ?_|fail)
 exact ⟨rfl,(by (exact bD _ _))⟩
theorem Bc (ts:List Int) (bd:List AL.Stmt) (pts:List Pnt) (n:Nat) (B:List Nat) (i:Int) (w:WG ts pts) (hn:n = B.length) (hB:B.length = pts.length) (hs:∀ z:Nat,Sm B[z]!) (hi:0 ≤ i ∧ i < pts.length):PC Tryz.prog 155 [aG ts bd pts,.imm n (flat cN B),iv i] (fun r => r = iv (GB pts B i.toNat:Nat)):=by
 subst hn
 have hin : i.toNat < pts.length := by omega
 have hnl := w.nl _ hin
 have hpl := w.pl
 refine aC Tryz.func155 Tryz.ntmps155 ?_
 repeat' (first|refine aF ?_|fail)
 refine aL (σ := Nat × Nat) [1,17,18] [] (fun k => [(19,iv (k.1 : Int)),(7,iv (k.2 : Int))]) (fun k => []) (fun k => k.1 ≤ pts[i.toNat]!.next.length ∧ k.2 = ((rC pts i.toNat).take k.1).foldl (fun a k => mI a B[k]!) 0 ∧ Sm k.2) (fun k => pts[i.toNat]!.next.length - k.1) (0,0) ⟨by omega,rfl,inferInstance⟩ ?_
 rintro ⟨k,a⟩ ⟨hk,ha,hsa⟩
 dsimp only at hk ha hsa ⊢
 have hz : k < pts[i.toNat]!.next.length → 0 ≤ pts[i.toNat]!.next[k]! ∧ pts[i.toNat]!.next[k]! < pts.length := fun h => w.nx _ hin _ (bT _ _ h)
 repeat' (first|refine aF ?_|(refine aU ?_ ?_ <;> intro hc hq <;> try (exfalso;omega))|refine dB ?_|fail)
 ·(refine bS (k + 1, _) (Le.renA []) ?_ ?_)
  ·dsimp only
   refine ⟨by omega,?_,inferInstance⟩
   rw [dL _ _ _ _ (by rw [j8]; omega),vJ (by omega),← ha]
  ·dsimp only;omega
 ·(refine ⟨?_, rfl⟩; simp only [aQ, AV.v.injEq, Value.bool.injEq, Value.int.injEq, true_and])
  rw [ha,List.take_of_length_le (by rw [j8]; omega)]; rfl
theorem Fc (ts:List Int) (bd:List AL.Stmt) (pts:List Pnt) (A:List Nat) (w:WG ts pts) (hA:qN ts pts A):PC Tryz.prog 154 [aG ts bd pts] (fun r => r = .imm pts.length (flat cN A)):=by
 have hpl := w.pl
 have hp0 := w.p0
 have htl := w.tl
 refine aC Tryz.func154 Tryz.ntmps154 ?_
 repeat' (first|refine aF ?_|fail)
 refine aL (σ := List Nat × Bool) [0,3] [] (fun s => [(4,bv s.2)]) (fun s => [(0,some (flat cN s.1))]) (fun s => SN ts pts s.1 ∧ (s.2 = false → ∀ i,i < pts.length → oB ts pts s.1 i = s.1[i]!)) (fun s => 2 * eI (s.1.map (fun a => 2 ^ ts.length - a)) + s.2.toNat) (List.replicate pts.length 0,true) ⟨Ii,fun h => by cases h⟩ ?_
 rintro ⟨s,b⟩ ⟨hS,hC⟩
 dsimp only at hS hC ⊢
 repeat' (first|refine aF ?_|(refine aU ?_ ?_ <;> intro hc hq <;> try (exfalso;omega))|fail)
 ·refine aL (σ := Nat × Int × (List Nat × Bool)) [0, 3] [] (fun k => [(5, iv k.2.1), (4, bv k.2.2.2)]) (fun k => [(0, some (flat cN k.2.2.1))]) (fun k => k.1 ≤ pts.length ∧ k.2.1 = (pts.length : Int) - 1 - k.1 ∧ k.2.2 = ((List.range pts.length).reverse.take k.1).foldl (kF ts pts) (s, false) ∧ SN ts pts k.2.2.1) (fun k => pts.length - k.1) (0, (pts.length : Int) - 1, (s, false)) ⟨by omega, by simp, rfl, hS⟩ ?_
  rintro ⟨k,z,u,c⟩ ⟨hk,hz,hf,hS2⟩
  dsimp only at hk hz hf hS2 ⊢
  have hsm : ∀ z : Nat,Sm u[z]! := qR hS2.1 (fun i A h => h.1) htl
  have hul := hS2.1.1
  have hst := fun h : z.toNat < pts.length => (w.set z.toNat h).1
  have hst2 : aT pts[z.toNat]! < 62 := by
   by_cases h : z.toNat < pts.length
   ·have := hst h;omega
   ·rw [getElem!_neg pts z.toNat h]; decide
  have hs1 : Sm (wS ts pts[z.toNat]! [1,2,3]) := dP (by omega)
  have hs2 : Sm (fY pts[z.toNat]!) := pG (by omega)
  have hs3 : Sm (GB pts u z.toNat) := by
   unfold GB
   have : ∀ (L : List Nat) (a : Nat), Sm a → Sm (L.foldl (fun a k => a ||| u[k]!) a) := by
    intro L;induction L with
    | nil => exact fun a h => h
    | cons x L ih => exact fun a h => ih _ (inferInstance : Sm (a ||| u[x]!))
   exact this _ _ inferInstance
  have hlaw := fun h : z.toNat < pts.length => rY w u c z.toNat h hS2
  repeat' (first|(apply aH;(first|(apply aA (k := 116);rfl;(apply Dj <;> (assumption));exact Pur.pf;rfl)|(apply aA (k := 178);rfl;(apply mP <;> (assumption));exact Pur.pf;rfl)|(apply EO (k := 155);(case ha => rfl);(case hl => (repeat' (first|exact CP|apply zM|exact G2|exact BX rfl inferInstance|exact AN inferInstance)));(case h => (apply Bc <;> (first|assumption|omega)));(case hfr|hN => rfl);(case hmd => infer_instance))))|refine aF ?_|(refine aU ?_ ?_ <;> intro hc hq <;> try (exfalso;omega))|refine dC ?_|fail)
  ·have hzn : z.toNat < pts.length := by omega
   have hne : oB ts pts u z.toNat ≠ u[z.toNat]! := fun h => hq (congrArg Int.ofNat h)
   have hl := hlaw hzn
   rw [Bx hne] at hl
   have hrg : (List.range pts.length).reverse[k]! = z.toNat := by rw [wH (by omega)]; omega
   (refine bS (k + 1,_,(_,true)) (Le.renA [(0,0)]) ?_ ?_)
   ·dsimp only
    refine ⟨by omega,by omega,?_,hl.1⟩
    rw [dL _ _ _ _ (by simp;omega),← hf,hrg,Bx hne]; rfl
   ·dsimp only;omega
  ·have hzn : z.toNat < pts.length := by omega
   have hne : oB ts pts u z.toNat = u[z.toNat]! := Int.ofNat.inj hq
   have hrg : (List.range pts.length).reverse[k]! = z.toNat := by rw [wH (by omega)]; omega
   (refine bS (k + 1,_,(u,c)) (Le.renA [(0,0)]) ?_ ?_)
   ·dsimp only
    refine ⟨by omega,by omega,?_,hS2⟩
    rw [dL _ _ _ _ (by simp;omega),← hf,hrg,HI hne]
   ·dsimp only;omega
  ·have law := C8 w s false hS
   have hfull : (u, c) = xR ts pts (s, false) := by
    rw [hf,List.take_of_length_le (by simp;omega)]; rfl
   rw [← hfull] at law
   (refine bS (u,c) (Le.renA [(0,0)]) ?_ ?_)
   ·dsimp only
    refine ⟨hS2,fun h => ?_⟩
    rcases law.2 with ⟨e1,e2⟩ | ⟨e1,_⟩
    ·cases e1;exact e2
    ·dsimp only at e1;rw [h] at e1;cases e1
   ·dsimp only
    have hb : b = true := by assumption
    subst hb
    rcases law.2 with ⟨e1,e2⟩ | ⟨e1,e2⟩
    ·cases e1;simp
    ·dsimp only at e1 e2;subst e1;omega
 ·have hb : b = false := by assumption
  refine bW (Le.frzD (d := 2) (i := 0) rfl rfl) ?_
  refine aO rfl ⟨?_,(by (exact bD _ _))⟩
  simp only [aQ]
  rw [C5 hA (Ed w hS (hC hb))]
theorem wJ (ts:List Int) (bd:List AL.Stmt) (pts:List Pnt) (B A:List Nat) (w:WG ts pts) (hB:qN ts pts B) (hA:oQ ts pts A):PC Tryz.prog 113 [aG ts bd pts] (fun r => r = .imm pts.length (flat cN A)):=by
 have hpl := w.pl
 have htl := w.tl
 have hBl := hB.1
 have hsm : ∀ z : Nat, Sm B[z]! := by
  intro z
  by_cases hz : z < pts.length
  ·refine ⟨Nat.lt_of_lt_of_le (Nat.lt_pow_two_of_testBit _ (n := 6) fun v hv => ?_) (by decide)⟩
   cases hq : B[z]!.testBit v with
   | false => rfl
   | true => have := oS w ((hB.2 z hz v).1 hq);dsimp only at this;omega
  ·rw [getElem!_neg B z (by rw [hBl]; exact hz)]; exact ⟨by decide⟩
 refine aC Tryz.func113 Tryz.ntmps113 ?_
 repeat' (first|(apply aH;(apply aA (k := 154);rfl;(apply Fc <;> (assumption));exact Pur.pf;rfl))|refine aF ?_|fail)
 refine AW.le ?_ (Le.nilOwn (d := 4) 1 rfl (by decide))
 refine aL (σ := Nat × List Nat) [0,3,12] [] (fun k => [(13,iv (k.1 : Int)),(4,.own 0 0 k.1 1)]) (fun k => [(0,some (flat cN k.2))]) (fun k => k.1 ≤ pts.length ∧ k.2 = (List.range k.1).map (GB pts B)) (fun k => pts.length - k.1) (0,[]) ⟨by omega,rfl⟩ ?_
 rintro ⟨k,u⟩ ⟨hk,hu⟩
 dsimp only at hk hu ⊢
 have hul : u.length = k := by rw [hu]; simp
 repeat' (first|(apply aH;first|(apply aY (t := _);rfl;rfl;rfl;exact (rfl:_=some [_]);rfl;rfl)|(apply aA (k := 155);rfl;(apply Bc <;> (first|assumption|omega));exact Pur.pf;rfl))|refine aF ?_|(refine aU ?_ ?_ <;> intro hc hq <;> try (exfalso;omega))|fail)
 ·(refine bS (k + 1, _) (Le.renA [(0, 2)]) ?_ ?_)
  ·dsimp only
   refine ⟨by omega,?_⟩
   rw [hu,List.range_succ,List.map_append]; rfl
  ·dsimp only;omega
 ·refine bW (Le.frzD (d := 2) (i := 0) rfl rfl) ?_
  refine aO rfl ⟨?_,(by (exact bD _ _))⟩
  simp only [aQ]
  have hkn : k = pts.length := by omega
  subst hkn
  rw [sS hA (wO w hB),hu]
theorem uB (A:Nat) (hA:Sm A):PC Tryz.prog 100 [iv (A:Int)] (fun r => r = sl cI (bB A)):=by
 refine aC Tryz.func100 Tryz.ntmps100 ?_
 repeat' (first|refine aF ?_|fail)
 refine AW.le ?_ (Le.nilOwn (d := 3) 1 rfl (by decide))
 refine aL (σ := Nat × List Int × Nat) [0] [] (fun k => [(4,iv (k.1 : Int)),(3,.own 0 0 k.2.2 1)]) (fun k => [(0,some (flat cI k.2.1))]) (fun k => k.1 ≤ 62 ∧ k.2.1 = ((List.range k.1).filter (A.testBit ·)).map (fun v : Nat => (v : Int)) ∧ k.2.2 = k.2.1.length ∧ k.2.2 ≤ k.1) (fun k => 62 - k.1) (0,[],0) ⟨by omega,rfl,rfl,Nat.le_refl _⟩ ?_
 rintro ⟨k,u,m⟩ ⟨hk,hu,hm,hmk⟩
 dsimp only at hk hu hm hmk ⊢
 repeat' (first|(apply aH;(apply aY (t := _);rfl;rfl;rfl;exact (rfl:_=some [_]);rfl;rfl))|refine aF ?_|(refine aU ?_ ?_ <;> intro hc hq <;> try (exfalso;omega))|fail)
 ·have hlt := BG hA (show 0 < ((A >>> k : Nat) : Int) by assumption)
  (refine bS (k + 1,_,_) (Le.renA [(0,2)]) ?_ ?_)
  ·dsimp only
   exact ⟨by omega,r8 hq hu,by simp;omega,by omega⟩
  ·dsimp only;omega
 ·have hlt := BG hA (show 0 < ((A >>> k : Nat) : Int) by assumption)
  (refine bS (k + 1,u,m) (Le.renA [(0,0)]) ?_ ?_)
  ·dsimp only
   exact ⟨by omega,s9 hq hu,hm,by omega⟩
  ·dsimp only;omega
 ·(refine bW (Le.frzD (d := 2) (i := 0) rfl rfl) ?_; refine aO rfl ?_)
  refine ⟨?_,(by (exact bD _ _))⟩
  simp only [aQ,sl]
  rw [nU (k := k) (fun v hv => D5 hq v hv) (by omega) hA,← hu,← hm]
theorem pL (A:Nat) (hA:Sm A):PC Tryz.prog 151 [.v (.int .u64 (A:Int))] (fun r => r = sl cI (bB A)):=by
 refine aC Tryz.func151 Tryz.ntmps151 ?_
 repeat' (first|refine aF ?_|fail)
 refine AW.le ?_ (Le.nilOwn (d := 3) 1 rfl (by decide))
 refine aL (σ := Nat × List Int × Nat) [0] [] (fun k => [(5,iv (k.1 : Int)),(3,.own 0 0 k.2.2 1)]) (fun k => [(0,some (flat cI k.2.1))]) (fun k => k.1 ≤ 64 ∧ k.2.1 = ((List.range k.1).filter (A.testBit ·)).map (fun v : Nat => (v : Int)) ∧ k.2.2 = k.2.1.length ∧ k.2.2 ≤ k.1) (fun k => 64 - k.1) (0,[],0) ⟨by omega,rfl,rfl,Nat.le_refl _⟩ ?_
 rintro ⟨k,u,m⟩ ⟨hk,hu,hm,hmk⟩
 dsimp only at hk hu hm hmk ⊢
 repeat' (first|(apply aH;(apply aY (t := _);rfl;rfl;rfl;exact (rfl:_=some [_]);rfl;rfl))|refine aF ?_|(refine aU ?_ ?_ <;> intro hc hq <;> try (exfalso;omega))|fail)
 ·(refine bS (k + 1, _, _) (Le.renA [(0, 2)]) ?_ ?_)
  ·dsimp only
   exact ⟨by omega,r8 hq hu,by simp;omega,by omega⟩
  ·dsimp only;omega
 ·(refine bS (k + 1, u, m) (Le.renA [(0, 0)]) ?_ ?_)
  ·dsimp only
   exact ⟨by omega,s9 hq hu,hm,by omega⟩
  ·dsimp only;omega
 ·(refine bW (Le.frzD (d := 2) (i := 0) rfl rfl) ?_; refine aO rfl ?_)
  refine ⟨?_,(by (exact bD _ _))⟩
  simp only [aQ,sl]
  rw [nU (k := k) (fun v hv => Nat.testBit_lt_two_pow (Nat.lt_of_lt_of_le hA.pf (Nat.pow_le_pow_right (by decide) (by omega)))) (by omega) hA,← hu,← hm]
theorem vV (ts:List Int) (bd:List AL.Stmt) (pts:List Pnt) (V:Nat) (w:WG ts pts) (hV:Sm V):PC Tryz.prog 186 [aG ts bd pts,iv (V:Int)] (fun r => r = .v (.int .u64 (oZ pts V:Nat))):=by
 have hpl := w.pl
 have htl := w.tl
 refine aC Tryz.func186 Tryz.ntmps186 ?_
 repeat' (first|refine aF ?_|fail)
 refine aL (σ := Nat × Nat) [1,11,12] [] (fun k => [(13,iv (k.1 : Int)),(5,.v (.int .u64 (k.2 : Int)))]) (fun k => []) (fun k => k.1 ≤ pts.length ∧ k.2 = eF (fun l => bU pts[l]! && V.testBit (pts[l]!.y.toNat)) k.1) (fun k => pts.length - k.1) (0,0) ⟨by omega,rfl⟩ ?_
 rintro ⟨k,A⟩ ⟨hk,hA⟩
 dsimp only at hk hA ⊢
 have hsm : Sm A := hA ▸ dP (by omega)
 cases hln : bU pts[k]!
 ·repeat' (first | (apply aH; (apply aA (k := 184);rfl;(apply kV);exact Pur.pf;rfl)) | refine aF ?_ | (refine aU ?_ ?_ <;> intro hc hq <;> try (exfalso; omega)) | refine dB ?_|fail)
  ·(refine bS (k + 1, A) (Le.renA []) ?_ ?_)
   ·dsimp only
    exact ⟨by omega,by rw [hA]; exact lC _ _ (by rw [hln]; rfl)⟩
   ·dsimp only;omega
  ·(refine ⟨?_, rfl⟩; simp only [aQ, AV.v.injEq, Value.bool.injEq, Value.int.injEq, true_and])
   rw [hA,show k = pts.length by omega]; rfl
 ·have hy := fun (h : k < pts.length) => mE w h hln
  repeat' (first|(apply aH;first|(apply iQ;rfl;rfl;infer_instance;omega;rfl;(case' kk => intro hsm))|(apply aA (k := 184);rfl;(apply kV);exact Pur.pf;rfl))|refine aF ?_|(refine aU ?_ ?_ <;> intro hc hq <;> try (exfalso;omega))|refine dB ?_|fail)
  ·(refine bS (k + 1, _) (Le.renA []) ?_ ?_)
   ·dsimp only
    exact ⟨by omega,by rw [hA]; exact oO _ _ (by rw [hln,Bool.true_and]; exact (k4 _ _).1 hq)⟩
   ·dsimp only;omega
  ·(refine bS (k + 1, A) (Le.renA []) ?_ ?_)
   ·dsimp only
    exact ⟨by omega,by rw [hA]; exact lC _ _ (by rw [hln,Bool.true_and]; cases hb : V.testBit (pts[k]!.y.toNat) with|false => rfl|true => exact absurd ((k4 _ _).2 hb) hq)⟩
   ·dsimp only;omega
  ·(refine ⟨?_, rfl⟩; simp only [aQ, AV.v.injEq, Value.bool.injEq, Value.int.injEq, true_and])
   rw [hA,show k = pts.length by omega]; rfl
theorem DR (ts:List Int) (bd:List AL.Stmt) (pts:List Pnt) (A:List Nat) (w:WG ts pts) (hA:oL ts pts A):PC Tryz.prog 150 [aG ts bd pts] (fun r => r = .imm pts.length (flat cW A)):=by
 have hpl := w.pl
 have hp0 := w.p0
 have htl := w.tl
 have fl := JV w
 refine aC Tryz.func150 Tryz.ntmps150 ?_
 repeat' (first|refine aF ?_|fail)
 refine aL (σ := List Nat × Bool) [0,3] [] (fun s => [(4,bv s.2)]) (fun s => [(0,some (flat cW s.1))]) (fun s => SG pts (JE ts pts) s.1 ∧ (s.2 = false → j4 mI (vK ts pts) pts s.1)) (fun s => 2 * eI (s.1.map (fun a => 2 ^ pts.length - a)) + s.2.toNat) (List.replicate pts.length 0,true) ⟨Aj fun i hi => ⟨Nat.pow_pos (by decide),fun v h => by simp at h⟩,fun h => by cases h⟩ ?_
 rintro ⟨s,b⟩ ⟨hS,hC⟩
 dsimp only at hS hC ⊢
 repeat' (first|refine aF ?_|(refine aU ?_ ?_ <;> intro hc hq <;> try (exfalso;omega))|fail)
 ·refine aL (σ := Nat × (List Nat × Bool)) [0, 3, 20, 21] [] (fun k => [(22, iv (k.1 : Int)), (4, bv k.2.2)]) (fun k => [(0, some (flat cW k.2.1))]) (fun k => k.1 ≤ pts.length ∧ k.2 = (List.range k.1).foldl (tX mI (vK ts pts) pts) (s, false) ∧ SG pts (JE ts pts) k.2.1) (fun k => pts.length - k.1) (0, (s, false)) ⟨by omega, rfl, hS⟩ ?_
  rintro ⟨k,u,c⟩ ⟨hk,hf,hS2⟩
  dsimp only at hk hf hS2 ⊢
  have hul := hS2.1
  by_cases hkn : k < pts.length
  ·have hst := (w.set k hkn).1
   have hsm : ∀ z : Nat, Sm u[z]! := by
    intro z
    by_cases hz : z < pts.length
    ·exact ⟨Nat.lt_of_lt_of_le (hS2.2 z hz).1 (Nat.pow_le_pow_right (by decide) (by omega))⟩
    ·rw [getElem!_neg u z (by rw [hul]; exact hz)]; exact ⟨by decide⟩
   have hs1 : Sm (wS ts pts[k]! [2]) := dP (by omega)
   have hs2 : Sm (fY pts[k]!) := pG (by omega)
   have hs3 : ∀ V,Sm (oZ pts V) := fun V => Du w V
   have hnl := w.nl k hkn
   have e1 : bU pts[k]! = true → l7 u[k]! (oZ pts (wS ts pts[k]! [2] ||| fY pts[k]!)) ||| 2 ^ (k : Int).toNat = vK ts pts k u[k]! := fun h => by unfold vK Is;rw [if_pos h]; rfl
   have e0 : bU pts[k]! = false → l7 u[k]! (oZ pts (wS ts pts[k]! [2] ||| fY pts[k]!)) = vK ts pts k u[k]! := fun h => by unfold vK Is;rw [if_neg (by rw [h]; simp),Nat.or_zero]
   have hps : Sm (vK ts pts k u[k]!) := ⟨Nat.lt_of_lt_of_le (y7 w hkn (hS2.2 k hkn).1) (Nat.pow_le_pow_right (by decide) (by omega))⟩
   repeat' (first|(apply aH;first|(apply iQ;rfl;rfl;infer_instance;omega;rfl;(case' kk => intro hsm))|(first|(apply aA (k := 177);rfl;(apply pB <;> (assumption));exact Pur.pf;rfl)|(apply aA (k := 178);rfl;(apply mP <;> (omega));exact Pur.pf;rfl)|(apply aA (k := 184);rfl;(apply kV);exact Pur.pf;rfl)|(apply aA (k := 186);rfl;(apply vV <;> (first|assumption|infer_instance));exact Pur.pf;rfl)))|refine aF ?_|(refine aU ?_ ?_ <;> intro hc hq <;> try (exfalso;omega))|refine dC ?_|fail)
   all_goals first|rw [e1 (by assumption)]|rw [e0 (by assumption)]
   all_goals
    refine aL (σ := Nat × (List Nat × Bool)) [0,3,7,20,21,22,47,48] [] (fun j => [(49,iv (j.1 : Int)),(4,bv j.2.2)]) (fun j => [(0,some (flat cW j.2.1))]) (fun j => j.1 ≤ pts[k]!.next.length ∧ j.2 = ((rC pts k).take j.1).foldl (jY mI (vK ts pts k u[k]!)) (u,c) ∧ SG pts (JE ts pts) j.2.1) (fun j => pts[k]!.next.length - j.1) (0,(u,c)) ⟨by omega,rfl,hS2⟩ ?_
    rintro ⟨j,u2,c2⟩ ⟨hj,hf2,hS3⟩
    dsimp only at hj hf2 hS3 ⊢
    have hul2 := hS3.1
    have hsm2 : ∀ z : Nat, Sm u2[z]! := by
     intro z
     by_cases hz : z < pts.length
     ·exact ⟨Nat.lt_of_lt_of_le (hS3.2 z hz).1 (Nat.pow_le_pow_right (by decide) (by omega))⟩
     ·rw [getElem!_neg u2 z (by rw [hul2]; exact hz)]; exact ⟨by decide⟩
    have hz : j < pts[k]!.next.length → 0 ≤ pts[k]!.next[j]! ∧ pts[k]!.next[j]! < pts.length := fun h => w.nx k hkn _ (bT _ _ h)
    repeat' (first|refine aF ?_|(refine aU ?_ ?_ <;> intro hc hq <;> try (exfalso;omega))|refine dC ?_|fail)
    ·have hzz := hz (by omega)
     have hed : c9 pts k (pts[k]!.next[j]!).toNat := ⟨hkn,by rw [Int.toNat_of_nonneg hzz.1]; exact bT _ _ (by omega)⟩
     have hne : mI u2[(pts[k]!.next[j]!).toNat]! (vK ts pts k u[k]!) ≠ u2[(pts[k]!.next[j]!).toNat]! := fun h => hq (congrArg Int.ofNat h)
     (refine bS (j + 1,(_,true)) (Le.renA [(0,0)]) ?_ ?_)
     ·dsimp only
      refine ⟨by omega,?_,uC fl w (hS2.2 k hkn) hed hS3⟩
      rw [gX (by omega),← hf2,tH hne]
     ·dsimp only;omega
    ·have hzz := hz (by omega)
     have hne : mI u2[(pts[k]!.next[j]!).toNat]! (vK ts pts k u[k]!) = u2[(pts[k]!.next[j]!).toNat]! := Int.ofNat.inj hq
     (refine bS (j + 1,(u2,c2)) (Le.renA [(0,0)]) ?_ ?_)
     ·dsimp only
      refine ⟨by omega,?_,hS3⟩
      rw [gX (by omega),← hf2,vI hne]
     ·dsimp only;omega
    ·(refine bS (k + 1, (u2, c2)) (Le.renA [(0, 0)]) ?_ ?_)
     ·dsimp only
      refine ⟨by omega,?_,hS3⟩
      rw [dD,← hf,hf2,List.take_of_length_le (by rw [j8]; omega)]; rfl
     ·dsimp only;omega
  ·repeat' (first | refine aF ?_ | (refine aU ?_ ?_ <;> intro hc hq <;> try (exfalso; omega))|fail)
   have law := pV w fl s false hS
   have hfull : (u, c) = uX mI (vK ts pts) pts (s, false) := by
    rw [hf,show k = pts.length by omega]; rfl
   rw [← hfull] at law
   (refine bS (u,c) (Le.renA [(0,0)]) ?_ ?_)
   ·dsimp only
    refine ⟨hS2,fun h => ?_⟩
    rcases law.2 with ⟨e1,e2⟩ | ⟨e1,_⟩
    ·cases e1;exact e2
    ·dsimp only at e1;rw [h] at e1;cases e1
   ·dsimp only
    have hb : b = true := by assumption
    subst hb
    rcases law.2 with ⟨e1,e2⟩ | ⟨e1,e2⟩
    ·cases e1;simp
    ·dsimp only at e1 e2;subst e1;omega
 ·have hb : b = false := by assumption
  refine bW (Le.frzD (d := 2) (i := 0) rfl rfl) ?_
  refine aO rfl ⟨?_,(by (exact bD _ _))⟩
  simp only [aQ]
  rw [Cm hA (DW w hS (hC hb))]
theorem yS (ts:List Int) (bd:List AL.Stmt) (pts:List Pnt) (i:Int) (f:List Nat) (w:WG ts pts) (hi:0 ≤ i ∧ i < pts.length) (hf:f.length = 6) (hs:∀ z:Nat,Sm f[z]!):PC Tryz.prog 148 [aG ts bd pts,iv i,.agg (flat cW f)] (fun r => r = .agg (flat cW (vE ts pts i.toNat f))):=by
 have hpl := w.pl
 have htl := w.tl
 have hin : i.toNat < pts.length := by omega
 have hst := (w.set i.toNat hin)
 have hy := w.y i.toNat hin
 have hbl := jQ (wS ts pts[i.toNat]! [2])
 have hT : Sm (wS ts pts[i.toNat]! [2]) := dP (by omega)
 refine aC Tryz.func148 Tryz.ntmps148 ?_
 repeat' (first|(apply aH;(first|(apply aA (k := 100);rfl;(apply uB <;> (assumption));(rfl);rfl)|(apply aA (k := 177);rfl;(apply pB <;> (assumption));exact Pur.pf;rfl)))|refine aF ?_|fail)
 refine aL (σ := Nat × List Nat) [0,1,5,6,7,8,23,24] [0,1,2] (fun k => [(25,iv (k.1 : Int))]) (fun k => [(3,some (flat cW k.2))]) (fun k => k.1 ≤ (bB (wS ts pts[i.toNat]! [2])).length ∧ k.2 = mJ ((bB (wS ts pts[i.toNat]! [2])).take k.1) f ∧ k.2.length = 6) (fun k => (bB (wS ts pts[i.toNat]! [2])).length - k.1) (0,f) ⟨by omega,rfl,hf⟩ ?_
 rintro ⟨k,u⟩ ⟨hk,hu,hul⟩
 dsimp only at hk hu hul ⊢
 have hbb : k < (bB (wS ts pts[i.toNat]! [2])).length → 0 ≤ (bB (wS ts pts[i.toNat]! [2]))[k]! ∧ (bB (wS ts pts[i.toNat]! [2]))[k]! < ts.length := fun h => kS (tC (fun v => decide (aZ ts pts[i.toNat]! v ∈ [2])) ts.length) h
 have husm : ∀ z : Nat,Sm u[z]! := by intro z;rw [hu]; exact H5 hs z
 have hset : ∀ (k a : Nat) [Sm a] (z : Nat),Sm (u.set k a)[z]! := fun k a h z => Ao husm h z
 have hset2 : ∀ (k a k2 a2 : Nat) [Sm a] [Sm a2] (z : Nat),Sm ((u.set k a).set k2 a2)[z]! := fun k a k2 a2 h h2 z => Ao (Ao husm h) h2 z
 by_cases hkn : k < (bB (wS ts pts[i.toNat]! [2])).length
 ·have hbk := hbb hkn
  repeat' (first|refine aF ?_|(refine aU ?_ ?_ <;> intro hc hq <;> try (exfalso;omega))|fail)
  (refine bS (k + 1,u.set ((bB (wS ts pts[i.toNat]! [2]))[k]!).toNat 0) (Le.renA [(0,0),(1,1),(2,2),(3,3)]) ?_ ?_)
  ·dsimp only
   exact ⟨by omega,by rw [B0 hkn,← hu],by simpa using hul⟩
  ·dsimp only;omega
 ·have hu' : u = mJ (bB (wS ts pts[i.toNat]! [2])) f := by rw [hu, List.take_of_length_le (by omega)]
  cases hln : bU pts[i.toNat]!
  ·repeat' (first | (apply aH; (first | (apply aA (k := 183);rfl;(apply uI);exact Pur.pf;rfl) | (apply aA (k := 184);rfl;(apply kV);exact Pur.pf;rfl))) | refine aF ?_ | (refine aU ?_ ?_ <;> intro hc hq <;> try (exfalso; omega)) | refine dC ?_|fail)
   all_goals (refine aO (mH (z := 6) rfl rfl (by first|exact hul|(simp only [List.length_set]; exact hul)) (by decide)) ⟨?_,(by (exact bD _ _))⟩)
   all_goals simp only [aQ,vE,← hu',hln,Bool.false_eq_true,false_and,false_or,if_false]
   all_goals congr 2
   all_goals grind
  ·have hop := mT hln
   repeat' (first|(apply aH;first|(apply iQ;rfl;rfl;infer_instance;omega;rfl;(case' kk => intro hsm))|(first|(apply aA (k := 183);rfl;(apply uI);exact Pur.pf;rfl)|(apply aA (k := 184);rfl;(apply kV);exact Pur.pf;rfl)|(apply aA (k := 185);rfl;(apply v7);(rfl);rfl)))|refine aF ?_|(refine aU ?_ ?_ <;> intro hc hq <;> try (exfalso;omega))|(refine cE ?_ ?_ <;> intro hg hq <;> try (exfalso;omega))|refine dC ?_|fail)
   all_goals (refine aO (mH (z := 6) rfl rfl (by first|exact hul|(simp only [List.length_set]; exact hul)) (by decide)) ⟨?_,(by (exact bD _ _))⟩)
   all_goals simp only [aQ,vE,← hu',hln,true_and,if_true]
   all_goals congr 2
   all_goals grind
theorem Db (ts:List Int) (bd:List AL.Stmt) (pts:List Pnt) (A:List Nat) (w:WG ts pts) (hA:oI ts pts A):PC Tryz.prog 111 [aG ts bd pts] (fun r => r = .imm pts.length (flat cW A)):=by
 have hpl := w.pl
 have hp0 := w.p0
 have htl := w.tl
 refine aC Tryz.func111 Tryz.ntmps111 ?_
 repeat' (first|refine aF ?_|fail)
 refine aL (σ := List Nat × Bool) [0,3] [] (fun s => [(4,bv s.2)]) (fun s => [(0,some (flat cW s.1))]) (fun s => SF ts pts s.1 ∧ (s.2 = false → uY ts pts s.1)) (fun s => 2 * eI (s.1.map (fun x => 2 ^ pts.length - x)) + s.2.toNat) (List.replicate (pts.length * 6) 0,true) ⟨Jd,fun h => by cases h⟩ ?_
 rintro ⟨s,b⟩ ⟨hS,hC⟩
 dsimp only at hS hC ⊢
 repeat' (first|refine aF ?_|(refine aU ?_ ?_ <;> intro hc hq <;> try (exfalso;omega))|fail)
 ·refine aL (σ := Nat × (List Nat × Bool)) [0, 3, 22, 23] [] (fun k => [(24, iv (k.1 : Int)), (4, bv k.2.2)]) (fun k => [(0, some (flat cW k.2.1))]) (fun k => k.1 ≤ pts.length ∧ k.2 = (List.range k.1).foldl (yR ts pts) (s, false) ∧ SF ts pts k.2.1) (fun k => pts.length - k.1) (0, (s, false)) ⟨by omega, rfl, hS⟩ ?_
  rintro ⟨i,u,c⟩ ⟨hk,hf,hS2⟩
  dsimp only at hk hf hS2 ⊢
  have hul := hS2.1
  have hsm : ∀ z : Nat,Sm u[z]! := HX w hS2
  by_cases hin : i < pts.length
  ·have hnl := w.nl i hin
   have hrl : ((u.drop (i * 6)).take 6).length = 6 := fL hul hin
   have hrs : ∀ z : Nat, Sm ((u.drop (i * 6)).take 6)[z]! := by
    intro z
    by_cases hz : z < 6
    ·have := eR hul hin hz;unfold dN at this;rw [this]; exact hsm _
    ·rw [getElem!_neg _ z (by rw [hrl]; exact hz)]; exact ⟨by decide⟩
   have hcl : (vE ts pts (i : Int).toNat ((u.drop (i * 6)).take 6)).length = 6 := (Gn ts pts i ((u.drop (i * 6)).take 6)).trans hrl
   repeat' (first|(apply aH;(apply aA (k := 148);rfl;(apply yS <;> (first|assumption|omega));exact Pur.pf;rfl))|refine aF ?_|(refine aU ?_ ?_ <;> intro hc hq <;> try (exfalso;omega))|fail)
   generalize hcf : vE ts pts (i : Int).toNat ((u.drop (i * 6)).take 6) = a at hcl
   have hcf' : vE ts pts i (dN u i) = a := hcf
   have hasnd : ∀ k,c9 pts i k → ∀ v,v < 6 → JF ts pts k v a[v]! := fun k e v hv => by rw [← hcf']; exact Bq w hS2 e hv
   refine aL (σ := Nat × (List Nat × Bool)) [0,3,7,22,23,24,37,38] [2] (fun j => [(39,iv (j.1 : Int)),(4,bv j.2.2)]) (fun j => [(0,some (flat cW j.2.1))]) (fun j => j.1 ≤ pts[i]!.next.length ∧ j.2 = ((rC pts i).take j.1).foldl (rK a) (u,c) ∧ SF ts pts j.2.1) (fun j => pts[i]!.next.length - j.1) (0,(u,c)) ⟨by omega,rfl,hS2⟩ ?_
   rintro ⟨j,u2,c2⟩ ⟨hj,hf2,hS3⟩
   dsimp only at hj hf2 hS3 ⊢
   have hul2 := hS3.1
   by_cases hjn : j < pts[i]!.next.length
   ·have hzz : 0 ≤ pts[i]!.next[j]! ∧ pts[i]!.next[j]! < pts.length := w.nx i hin _ (bT _ _ hjn)
    have hed : c9 pts i (pts[i]!.next[j]!).toNat := ⟨hin,by rw [Int.toNat_of_nonneg hzz.1]; exact bT _ _ hjn⟩
    have hap := hasnd _ hed
    have hasm : ∀ z : Nat, Sm a[z]! := by
     intro z
     by_cases hz : z < 6
     ·exact ⟨Nat.lt_of_lt_of_le (hap z hz).1 (Nat.pow_le_pow_right (by decide) (by omega))⟩
     ·rw [getElem!_neg a z (by rw [hcl]; exact hz)]; exact ⟨by decide⟩
    repeat' (first|refine aF ?_|(refine aU ?_ ?_ <;> intro hc hq <;> try (exfalso;omega))|fail)
    refine aL (σ := Nat × (List Nat × Bool)) [0,3,7,9,22,23,24,37,38,39,43] [2] (fun v => [(44,iv (v.1 : Int)),(4,bv v.2.2)]) (fun v => [(0,some (flat cW v.2.1))]) (fun v => v.1 ≤ 6 ∧ v.2 = (List.range v.1).foldl (oD a (pts[i]!.next[j]!).toNat) (u2,c2) ∧ SF ts pts v.2.1) (fun v => 6 - v.1) (0,(u2,c2)) ⟨by omega,rfl,hS3⟩ ?_
    rintro ⟨v,u3,c3⟩ ⟨hv,hf3,hS4⟩
    dsimp only at hv hf3 hS4 ⊢
    have hul3 := hS4.1
    have hsm3 : ∀ z : Nat,Sm u3[z]! := HX w hS4
    by_cases hvn : v < 6
    ·have hlaw := vS (cX w hed) hap u3 c3 v hvn hS4
     repeat' (first|refine aF ?_|(refine aU ?_ ?_ <;> intro hc hq <;> try (exfalso;omega))|refine dC ?_|fail)
     ·have hne : mI u3[(pts[i]!.next[j]!).toNat * 6 + v]! a[v]! ≠ u3[(pts[i]!.next[j]!).toNat * 6 + v]! := fun h => hq (congrArg Int.ofNat h)
      have e1 : oD a (pts[i]!.next[j]!).toNat (u3,c3) v = (u3.set ((pts[i]!.next[j]!).toNat * 6 + v) (mI u3[(pts[i]!.next[j]!).toNat * 6 + v]! a[v]!),true) := tH hne
      rw [e1] at hlaw
      (refine bS (v + 1,(_,true)) (Le.renA [(0,0),(2,2)]) ?_ ?_)
      ·dsimp only
       refine ⟨by omega,?_,hlaw.1⟩
       rw [sR,← hf3,e1]; rfl
      ·dsimp only;omega
     ·have hne : mI u3[(pts[i]!.next[j]!).toNat * 6 + v]! a[v]! = u3[(pts[i]!.next[j]!).toNat * 6 + v]! := Int.ofNat.inj hq
      have e1 : oD a (pts[i]!.next[j]!).toNat (u3,c3) v = (u3,c3) := vI hne
      (refine bS (v + 1,(u3,c3)) (Le.renA [(0,0),(2,2)]) ?_ ?_)
      ·dsimp only
       refine ⟨by omega,?_,hS4⟩
       rw [sR,← hf3,e1]
      ·dsimp only;omega
    ·have hv6 : v = 6 := by omega
     subst hv6
     repeat' (first|refine aF ?_|fail)
     (refine bS (j + 1,(u3,c3)) (Le.renA [(0,0),(2,2)]) ?_ ?_)
     ·dsimp only
      refine ⟨by omega,?_,hS4⟩
      rw [Cn hjn,← hf2,hf3]; rfl
     ·dsimp only;omega
   ·repeat' (first | refine aF ?_ | (refine aU ?_ ?_ <;> intro hc hq <;> try (exfalso; omega))|fail)
    (refine bS (i + 1,(u2,c2)) (Le.renA [(0,0)]) ?_ ?_)
    ·dsimp only
     refine ⟨by omega,?_,hS3⟩
     rw [dD,← hf,hf2,List.take_of_length_le (by rw [j8]; omega),← hcf']; rfl
    ·dsimp only;omega
  ·repeat' (first | refine aF ?_ | (refine aU ?_ ?_ <;> intro hc hq <;> try (exfalso; omega))|fail)
   have law := Fm w s false hS
   have hfull : (u, c) = Fv ts pts (s, false) := by
    rw [hf,show i = pts.length by omega]; rfl
   rw [← hfull] at law
   (refine bS (u,c) (Le.renA [(0,0)]) ?_ ?_)
   ·dsimp only
    refine ⟨hS2,fun h => ?_⟩
    rcases law.2 with ⟨e1,e2⟩ | ⟨e1,_⟩
    ·cases e1;exact e2
    ·dsimp only at e1;rw [h] at e1;cases e1
   ·dsimp only
    have hb : b = true := by assumption
    subst hb
    rcases law.2 with ⟨e1,e2⟩ | ⟨e1,e2⟩
    ·cases e1;simp
    ·dsimp only at e1 e2;subst e1;omega
 ·have hb : b = false := by assumption
  refine bW (Le.frzD (d := 2) (i := 0) rfl rfl) ?_
  refine aO rfl ⟨?_,(by (exact bD _ _))⟩
  simp only [aQ]
  rw [CZ hA (DJ w hS (hC hb))]
theorem Jg (ts:List Int) (bd:List AL.Stmt) (pts:List Pnt) (i:Int) (lv:Nat) (f:List Nat) (w:WG ts pts) (hi:0 ≤ i ∧ i < pts.length) (hlv:lv < 2 ^ ts.length) (hf:f.length = 6) (hs:∀ z:Nat,Sm f[z]!):PC Tryz.prog 153 [aG ts bd pts,iv i,iv (lv:Int),.agg (flat cW f)] (fun r => r = .v (.int .u64 (rQ ts pts[i.toNat]! lv f:Nat))):=by
 have hpl := w.pl
 have htl := w.tl
 have hin : i.toNat < pts.length := by omega
 have hst := (w.set i.toNat hin)
 have hsl : Sm lv := ⟨Nat.lt_of_lt_of_le hlv (Nat.pow_le_pow_right (by decide) (by omega))⟩
 have hT : Sm (wS ts pts[i.toNat]! [2]) := dP (by omega)
 have hB : Sm (fY pts[i.toNat]!) := pG (by omega)
 have hbl := jQ (l7 lv (wS ts pts[i.toNat]! [2] ||| fY pts[i.toNat]!))
 have hlt : l7 lv (wS ts pts[i.toNat]! [2] ||| fY pts[i.toNat]!) < 2 ^ ts.length := Nat.xor_lt_two_pow hlv (Nat.lt_of_le_of_lt Nat.and_le_left hlv)
 refine aC Tryz.func153 Tryz.ntmps153 ?_
 repeat' (first|(apply aH;(first|(apply aA (k := 100);rfl;(apply uB <;> (infer_instance));(rfl);rfl)|(apply aA (k := 177);rfl;(apply pB <;> (assumption));exact Pur.pf;rfl)|(apply aA (k := 178);rfl;(apply mP <;> (omega));exact Pur.pf;rfl)))|refine aF ?_|refine dC ?_|fail)
 refine aL (σ := Nat × Nat) [7,28,29] [0] (fun k => [(30,iv (k.1 : Int)),(10,.v (.int .u64 (k.2 : Int)))]) (fun k => []) (fun k => k.1 ≤ (bB (l7 lv (wS ts pts[i.toNat]! [2] ||| fY pts[i.toNat]!))).length ∧ k.2 = Jt f ((bB (l7 lv (wS ts pts[i.toNat]! [2] ||| fY pts[i.toNat]!))).take k.1) 0 ∧ Sm k.2) (fun k => (bB (l7 lv (wS ts pts[i.toNat]! [2] ||| fY pts[i.toNat]!))).length - k.1) (0,0) ⟨by omega,rfl,inferInstance⟩ ?_
 rintro ⟨k,a⟩ ⟨hk,ha,hsa⟩
 dsimp only at hk ha hsa ⊢
 have hbb : k < (bB (l7 lv (wS ts pts[i.toNat]! [2] ||| fY pts[i.toNat]!))).length → 0 ≤ (bB (l7 lv (wS ts pts[i.toNat]! [2] ||| fY pts[i.toNat]!)))[k]! ∧ (bB (l7 lv (wS ts pts[i.toNat]! [2] ||| fY pts[i.toNat]!)))[k]! < ts.length := fun h => kS hlt h
 repeat' (first|refine aF ?_|(refine aU ?_ ?_ <;> intro hc hq <;> try (exfalso;omega))|fail)
 ·(refine bS (k + 1, _) (Le.renA [(0, 0)]) ?_ ?_)
  ·dsimp only
   refine ⟨by omega,?_,inferInstance⟩
   rw [ha]; unfold Jt;rw [dL _ _ _ _ (by omega)]
  ·dsimp only;omega
 ·refine aO rfl ⟨?_, rfl⟩
  simp only [aQ]
  rw [ha,List.take_of_length_le (by omega)]; rfl
theorem Av (ts:List Int) (bd:List AL.Stmt) (pts:List Pnt) (x:Pnt) (mb:Nat) (htl:ts.length ≤ 6) (hmb:Sm mb) (hst:aT x < ts.length) (hy:0 ≤ x.y ∧ (3 ≤ x.op → x.op ≤ 7 → x.y < ts.length)):PC Tryz.prog 187 [aG ts bd pts,n7 x,iv (mb:Int)] (fun r => r = sl CT (gM ts x (mb.testBit (aT x).toNat))):=by
 refine aC Tryz.func187 Tryz.ntmps187 ?_
 repeat' (first|(apply aH;first|(apply fN (d := 7) (e := 2);rfl;rfl)|(first|(apply aA (k := 183);rfl;(apply uI);exact Pur.pf;rfl)|(apply aA (k := 201);rfl;(apply A2 <;> (omega));exact Pur.pf;rfl)))|refine aF ?_|(refine aU ?_ ?_ <;> intro hc hq <;> try (exfalso;omega))|(refine cE ?_ ?_ <;> intro hg hq <;> try (exfalso;omega))|fail)
 all_goals first|refine bW (Le.frzD (d := 6) (i := 1) rfl rfl) ?_|refine bW (Le.frzD (d := 6) (i := 3) rfl rfl) ?_|refine bW (Le.frzD (d := 6) (i := 5) rfl rfl) ?_
 all_goals refine aO rfl ⟨?_,(by (rfl))⟩
 all_goals simp only [aQ,gM]
 all_goals have h1 := k4 mb (aT x).toNat
 all_goals (try (rw [if_neg (show ¬ (0 ≤ aT x ∧ ts[(aT x).toNat]! = 2 ∧ mb.testBit (aT x).toNat = true) from fun h => by omega)]))
 all_goals (simp_all <;> rfl)
theorem Ci (ts:List Int) (bd:List AL.Stmt) (pts:List Pnt) (i:Int) (mb loans:Nat) (w:WG ts pts) (hi:0 ≤ i ∧ i < pts.length) (hmb:Sm mb) (hlo:loans < 2 ^ pts.length):PC Tryz.prog 152 [aG ts bd pts,iv i,iv (mb:Int),.v (.int .u64 (loans:Int))] (fun r => r = .v (.int .u64 (F3 pts loans (gM ts pts[i.toNat]! (mb.testBit (aT pts[i.toNat]!).toNat)) 0:Nat))):=by
 have hpl := w.pl
 have htl := w.tl
 have hin : i.toNat < pts.length := by omega
 have hst := (w.set i.toNat hin).1
 have hy := w.y i.toNat hin
 have hx := w.x i.toNat hin
 have hop := w.op i.toNat hin
 have hlsm : Sm loans := ⟨Nat.lt_of_lt_of_le hlo (Nat.pow_le_pow_right (by decide) (by omega))⟩
 have hacc := uK (mb.testBit (aT pts[i.toNat]!).toNat) w hin
 have hal := wK ts pts[i.toNat]! (mb.testBit (aT pts[i.toNat]!).toNat)
 refine aC Tryz.func152 Tryz.ntmps152 ?_
 repeat' (first|(apply aH;(apply aA (k := 187);rfl;(apply Av <;> (assumption));exact Pur.pf;rfl))|refine aF ?_|fail)
 generalize gM ts pts[i.toNat]! (mb.testBit (aT pts[i.toNat]!).toNat) = acs at hacc hal
 refine aL (σ := Nat × Nat) [0,3,23,24] [] (fun k => [(25,iv (k.1 : Int)),(9,.v (.int .u64 (k.2 : Int)))]) (fun k => []) (fun k => k.1 ≤ acs.length ∧ k.2 = F3 pts loans (acs.take k.1) 0 ∧ k.2 < 2 ^ pts.length) (fun k => acs.length - k.1) (0,0) ⟨by omega,rfl,Nat.pow_pos (by decide)⟩ ?_
 rintro ⟨k,a⟩ ⟨hk,ha,hab⟩
 dsimp only at hk ha hab ⊢
 by_cases hkn : k < acs.length
 ·have hcv := hacc _ (bT acs k hkn)
  have hof : ∀ V,Sm (oZ pts V) := fun V => Du w V
  have hll := jQ (loans &&& oZ pts (2 ^ (acs[k]!.var).toNat))
  have hlb : loans &&& oZ pts (2 ^ (acs[k]!.var).toNat) < 2 ^ pts.length := Nat.lt_of_le_of_lt Nat.and_le_left hlo
  have htk := dL (fun a c => Ga pts c.write (bB (loans &&& oZ pts (2 ^ c.var.toNat))) a) acs 0 k hkn
  repeat' (first|(apply aH;first|(apply iQ;rfl;rfl;infer_instance;omega;rfl;(case' kk => intro hsm))|(first|(apply aA (k := 151);rfl;(apply pL <;> (infer_instance));(rfl);rfl)|(apply aA (k := 186);rfl;(apply vV <;> (assumption));exact Pur.pf;rfl)))|refine aF ?_|(refine aU ?_ ?_ <;> intro hc hq <;> try (exfalso;omega))|fail)
  refine aL (σ := Nat × Nat) [0,3,11,23,24,25,36,37] [0] (fun j => [(38,iv (j.1 : Int)),(9,.v (.int .u64 (j.2 : Int)))]) (fun j => []) (fun j => j.1 ≤ (bB (loans &&& oZ pts (2 ^ (acs[k]!.var).toNat))).length ∧ j.2 = Ga pts acs[k]!.write ((bB (loans &&& oZ pts (2 ^ (acs[k]!.var).toNat))).take j.1) a ∧ j.2 < 2 ^ pts.length) (fun j => (bB (loans &&& oZ pts (2 ^ (acs[k]!.var).toNat))).length - j.1) (0,a) ⟨by omega,rfl,hab⟩ ?_
  rintro ⟨j,b⟩ ⟨hj,hb,hbb⟩
  dsimp only at hj hb hbb ⊢
  have hbsm : Sm b := ⟨Nat.lt_of_lt_of_le hbb (Nat.pow_le_pow_right (by decide) (by omega))⟩
  by_cases hjn : j < (bB (loans &&& oZ pts (2 ^ (acs[k]!.var).toNat))).length
  ·have hlz := kS hlb hjn
   have hstep : Ga pts acs[k]!.write ((bB (loans &&& oZ pts (2 ^ (acs[k]!.var).toNat))).take (j + 1)) a = if acs[k]!.write = true ∨ pts[((bB (loans &&& oZ pts (2 ^ (acs[k]!.var).toNat)))[j]!).toNat]!.op = 5 then b ||| 2 ^ ((bB (loans &&& oZ pts (2 ^ (acs[k]!.var).toNat)))[j]!).toNat else b := by
    rw [hb]; unfold Ga;rw [dL _ _ _ _ hjn]
   have hb2 : b ||| 2 ^ ((bB (loans &&& oZ pts (2 ^ (acs[k]!.var).toNat)))[j]!).toNat < 2 ^ pts.length := Nat.or_lt_two_pow hbb (Nat.pow_lt_pow_right (by decide) (by omega))
   repeat' (first|(apply aH;(apply iQ;rfl;rfl;infer_instance;omega;rfl;(case' kk => intro hsm)))|refine aF ?_|(refine aU ?_ ?_ <;> intro hc hq <;> try (exfalso;omega))|(refine cE ?_ ?_ <;> intro hg hq <;> try (exfalso;omega))|fail)
   all_goals first
    | ((refine bS (j + 1, b ||| 2 ^ ((bB (loans &&& oZ pts (2 ^ (acs[k]!.var).toNat)))[j]!).toNat) (Le.renA [(0, 0)]) ?_ ?_)
       ·dsimp only
        refine ⟨by omega,?_,hb2⟩
        rw [hstep,if_pos (by first|exact .inl (by assumption)|exact .inr (by assumption))]
       ·dsimp only;omega)
    | ((refine bS (j + 1, b) (Le.renA [(0, 0)]) ?_ ?_)
       ·dsimp only
        refine ⟨by omega,?_,hbb⟩
        rw [hstep,if_neg (fun h => h.elim (fun h1 => Bool.noConfusion (h1.symm.trans (by assumption : acs[k]!.write = false))) (fun h2 => absurd h2 (by assumption)))]
       ·dsimp only;omega)
  ·repeat' (first | refine aF ?_ | (refine aU ?_ ?_ <;> intro hc hq <;> try (exfalso; omega))|fail)
   (refine bS (k + 1,b) (Le.renA []) ?_ ?_)
   ·dsimp only
    refine ⟨by omega,?_,hbb⟩
    rw [hb,List.take_of_length_le (by omega),ha]; unfold F3;rw [htk]
   ·dsimp only;omega
 ·repeat' (first | refine aF ?_ | (refine aU ?_ ?_ <;> intro hc hq <;> try (exfalso; omega))|fail)
  refine aO rfl ⟨?_,rfl⟩
  simp only [aQ]
  rw [ha,List.take_of_length_le (by omega)]
end Go.Proofs.YtgkalkgplcdnkaaGreat
