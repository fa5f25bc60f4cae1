/-
 A part of the proofs over this program: rules and contracts of its functions (the contracts).
-/
import Derived.Test.YtgkalkgplcdnkaaGreatW2A07
import Derived.Test.YtgkalkgplcdnkaaGreatRows
set_option linter.unusedVariables false
set_option linter.unusedSimpArgs false
set_option maxHeartbeats 8000000
set_option maxRecDepth 4000
attribute [local irreducible] Go.AL.RW Go.AL.AW Go.AL.Stop
namespace Go.Proofs.YtgkalkgplcdnkaaGreat
open Go.AL
theorem cH (a b c:Int):PC Tryz.prog 55 [iv a,iv b,iv c] (fun r => r = bv (decide (b ≤ a) && decide (a ≤ c))):=by
 refine aD Tryz.func55 Tryz.ntmps55 ?_
 repeat' (first|refine aE ?_|(refine cS ?_ ?_ <;> intro hg hq <;> try (exfalso;omega))|refine eS ?_|fail)
 all_goals (refine ⟨?_,rfl⟩; simp only [aN,AV.v.injEq,Value.bool.injEq,Value.int.injEq,true_and])
 all_goals grind
theorem DB (t:Int):PC Tryz.prog 185 [iv t] (fun r => r = bv (nY t)):=by
 refine aD Tryz.func185 Tryz.ntmps185 ?_
 repeat' (first|refine aE ?_|(refine cS ?_ ?_ <;> intro hg hq <;> try (exfalso;omega))|refine eS ?_|fail)
 all_goals (refine ⟨?_,rfl⟩; simp only [aN,AV.v.injEq,Value.bool.injEq,Value.int.injEq,true_and])
 all_goals grind [nY]
theorem xZ (t:Int):PC Tryz.prog 210 [iv t] (fun r => r = bv (decide (t = 2) || nY t)):=by
 refine aD Tryz.func210 Tryz.ntmps210 ?_
 repeat' (first|(apply aF;(apply aB (k := 185);rfl;(apply DB);(rfl);rfl))|refine aE ?_|(refine cS ?_ ?_ <;> intro hg hq <;> try (exfalso;omega))|refine eS ?_|fail)
 all_goals (refine ⟨?_,rfl⟩; simp only [aN,AV.v.injEq,Value.bool.injEq,Value.int.injEq,true_and])
 all_goals grind
theorem yU (t:Int):PC Tryz.prog 174 [iv t] (fun r => r = bv (decide (t = 9) || decide (t = 10))):=by
 refine aD Tryz.func174 Tryz.ntmps174 ?_
 repeat' (first|refine aE ?_|(refine cS ?_ ?_ <;> intro hg hq <;> try (exfalso;omega))|refine eS ?_|fail)
 all_goals (refine ⟨?_,rfl⟩; simp only [aN,AV.v.injEq,Value.bool.injEq,Value.int.injEq,true_and])
 all_goals grind
theorem D2 (ts:List Int) (v:Int):PC Tryz.prog 209 [sl cI ts,iv v] (fun r => r = iv (dW ts v)):=by
 refine aD Tryz.func209 Tryz.ntmps209 ?_
 repeat' (first|refine aE ?_|(refine aL ?_ ?_ <;> intro hc hq <;> try (exfalso;omega))|(refine cS ?_ ?_ <;> intro hg hq <;> try (exfalso;omega))|refine eS ?_|fail)
 all_goals (refine ⟨?_,rfl⟩; simp only [aN,AV.v.injEq,Value.bool.injEq,Value.int.injEq,true_and])
 all_goals grind [dW]
theorem B7 (ts:List Int) (v:Int) (hl:ts.length ≤ 1048576):PC Tryz.prog 56 [sl cI ts,iv v] (fun r => r = iv (dW ts v)):=by
 refine aD Tryz.func56 Tryz.ntmps56 ?_
 repeat' (first|(apply aF;(apply aB (k := 55);rfl;(apply cH);(rfl);rfl))|refine aE ?_|(refine aL ?_ ?_ <;> intro hc hq <;> try (exfalso;omega))|refine eS ?_|fail)
 all_goals (refine ⟨?_,rfl⟩; simp only [aN,AV.v.injEq,Value.bool.injEq,Value.int.injEq,true_and])
 all_goals grind [dW]
theorem yQ (ts:List Int) (s:AL.Stmt) (hl:bO ts = true):PC Tryz.prog 175 [sl cI ts,bY s] (fun r => r = bv (s.th.isEmpty && s.el.isEmpty && dC ts s)):=by
 have hl2 := jL hl
 have hx := fT hl s.x
 have hy := fT hl s.y
 refine aD Tryz.func175 Tryz.ntmps175 ?_
 repeat' (first|(apply aF;(first|(apply aB (k := 55);rfl;(apply cH);(rfl);rfl)|(apply aB (k := 56);rfl;(apply B7 <;> (omega));exact Pur.pf;rfl)|(apply aB (k := 210);rfl;(apply xZ);(rfl);rfl)))|refine aE ?_|(refine aL ?_ ?_ <;> intro hc hq <;> try (exfalso;omega))|(refine cS ?_ ?_ <;> intro hg hq <;> try (exfalso;omega))|refine cC ?_|refine eS ?_|fail)
 all_goals (refine ⟨?_,rfl⟩; simp only [aN,AV.v.injEq,Value.bool.injEq,Value.int.injEq,true_and])
 all_goals (cases hth : s.th <;> cases hel : s.el <;> simp only [hth,hel,List.length_nil,List.length_cons,List.isEmpty_nil,List.isEmpty_cons,Bool.true_and,Bool.false_and] at *)
 all_goals (try unfold dC)
 all_goals (try simp only [nY,Bool.or_eq_true,Bool.or_eq_false_iff,decide_eq_true_eq,decide_eq_false_iff_not] at *)
 all_goals grind
theorem w6 (ts:List Int) (s:AL.Stmt) (hl:bO ts = true):PC Tryz.prog 170 [sl cI ts,bY s] (fun r => r = bv (dC ts s)):=by
 have hl2 := jL hl
 have hx := fT hl s.x
 have hy := fT hl s.y
 refine aD Tryz.func170 Tryz.ntmps170 ?_
 repeat' (first|(apply aF;(apply aB (k := 209);rfl;(apply D2);exact Pur.pf;rfl))|refine aE ?_|(refine aL ?_ ?_ <;> intro hc hq <;> try (exfalso;omega))|(refine cS ?_ ?_ <;> intro hg hq <;> try (exfalso;omega))|refine eS ?_|fail)
 all_goals (refine ⟨?_,rfl⟩; simp only [aN,AV.v.injEq,Value.bool.injEq,Value.int.injEq,true_and])
 all_goals (try unfold dC)
 all_goals grind
theorem AH (ts:List Int) (hl:bO ts = true) (m:Nat) (ih:∀ l (d:Int),aJ l < m → 0 ≤ d → d ≤ 1000 → PC Tryz.prog 85 [sl cI ts,sl aP l,iv d] (fun r => r = bv (okL ts d.toNat l))) (s:AL.Stmt) (d:Int) (hs:cM s ≤ m) (hd0:0 ≤ d) (hd:d ≤ 1000) :
  PC Tryz.prog 134 [sl cI ts,bY s,iv d] (fun r => r = bv (pT ts d.toNat s)) := by
 rw [FZ ts d hd0]
 refine aD Tryz.func134 Tryz.ntmps134 ?_
 repeat' (first|(apply aF;(first|(apply aB (k := 85);rfl;(apply ih <;> (first|omega|(have := gE s;omega)));exact Pur.pf;rfl)|(apply aB (k := 170);rfl;(apply w6 <;> (assumption));exact Pur.pf;rfl)))|refine aE ?_|(refine aL ?_ ?_ <;> intro hc hq <;> try (exfalso;omega))|(refine cS ?_ ?_ <;> intro hg hq <;> try (exfalso;omega))|refine eS ?_|fail)
 all_goals (refine ⟨?_,rfl⟩; simp only [aN,AV.v.injEq,Value.bool.injEq,Value.int.injEq,true_and])
 all_goals (cases hth : s.th <;> cases hel : s.el <;> simp only [hth,hel,List.length_nil,List.length_cons,List.isEmpty_nil,List.isEmpty_cons,Bool.true_and,Bool.false_and] at *)
 all_goals grind
theorem Bf (ts:List Int) (hl:bO ts = true) (m:Nat) (ih:∀ s (d:Int),cM s ≤ m → 0 ≤ d → d ≤ 1000 → PC Tryz.prog 134 [sl cI ts,bY s,iv d] (fun r => r = bv (pT ts d.toNat s))) (l:List AL.Stmt) (d:Int) (hs:aJ l ≤ m) (hm:m ≤ 100000000) (hd0:0 ≤ d) (hd:d ≤ 1000) :
  PC Tryz.prog 85 [sl cI ts,sl aP l,iv d] (fun r => r = bv (okL ts d.toNat l)) := by
 have hlen := dO l
 refine aD Tryz.func85 Tryz.ntmps85 ?_
 repeat' (first|refine aE ?_|fail)
 refine aK (σ := Nat) [0,1,2] [] (fun k => [(7,iv (k : Int))]) (fun k => []) (fun k => k ≤ l.length ∧ ∀ i,i < k → pT ts d.toNat l[i]! = true) (fun k => l.length - k) (0) ⟨by omega,by omega⟩ ?_
 intro k ⟨hk,hall⟩
 have hck := eQ l k
 repeat' (first|(apply aF;(apply aB (k := 134);rfl;(apply ih _ d (Nat.le_trans (hck (by omega)) hs) hd0 hd);exact Pur.pf;rfl))|refine aE ?_|(refine aL ?_ ?_ <;> intro hc hq <;> try (exfalso;omega))|refine eS ?_|fail)
 ·(refine ⟨?_, rfl⟩; simp only [aN, AV.v.injEq, Value.bool.injEq, Value.int.injEq, true_and])
  rw [Ei (k := k) (by omega) hq]
 ·(refine c9 (k + 1) (Le.renA []) ?_ ?_)
  ·grind
  ·omega
 ·(refine ⟨?_, rfl⟩; simp only [aN, AV.v.injEq, Value.bool.injEq, Value.int.injEq, true_and])
  rw [Ex (fun i hi => hall i (by omega))]
theorem F0 (ts:List Int) (hl:bO ts = true):∀ (m:Nat),m ≤ 100000000 → (∀ s (d:Int),cM s ≤ m → 0 ≤ d → d ≤ 1000 → PC Tryz.prog 134 [sl cI ts,bY s,iv d] (fun r => r = bv (pT ts d.toNat s))) ∧
  (∀ l (d : Int),aJ l ≤ m → 0 ≤ d → d ≤ 1000 → PC Tryz.prog 85 [sl cI ts,sl aP l,iv d] (fun r => r = bv (okL ts d.toNat l))) := by
 intro m
 induction m using Nat.strongRecOn with
 | ind m ih =>
  intro hm
  have h1 : ∀ s (d : Int), cM s ≤ m → 0 ≤ d → d ≤ 1000 → PC Tryz.prog 134 [sl cI ts, bY s, iv d] (fun r => r = bv (pT ts d.toNat s)) :=
   fun s d h1 h2 h3 => AH ts hl m (fun l d' g1 g2 g3 => (ih (aJ l) g1 (by omega)).2 l d' (Nat.le_refl _) g2 g3) s d h1 h2 h3
  exact ⟨h1,fun l d g1 g2 g3 => Bf ts hl m h1 l d g1 hm g2 g3⟩
theorem yE (m0:Nat) (ih:∀ l (most:Int),aJ l < m0 → -1 ≤ most → most ≤ 1000 → PC Tryz.prog 86 [sl aP l,iv most] (fun r => r = iv (kE most 0 l))) (l:List AL.Stmt) (most:Int) (hs:aJ l ≤ m0) (hm:m0 ≤ 100000000) (hd0:-1 ≤ most) (hd:most ≤ 1000) :
  PC Tryz.prog 86 [sl aP l,iv most] (fun r => r = iv (kE most 0 l)) := by
 have hlen := dO l
 have hall := jK l most 0
 refine aD Tryz.func86 Tryz.ntmps86 ?_
 repeat' (first|refine aE ?_|fail)
 refine aK (σ := Nat × Int) [0,1] [] (fun k => [(6,iv (k.1 : Int)),(5,iv k.2)]) (fun k => []) (fun k => k.1 ≤ l.length ∧ kE most k.2 (l.drop k.1) = kE most 0 l ∧ 0 ≤ k.2 ∧ k.2 ≤ aJ l) (fun k => l.length - k.1) (0,0) ⟨by omega,rfl,by omega,by omega⟩ ?_
 rintro ⟨k,n⟩ ⟨hk,hn,hn0,hn1⟩
 dsimp only at hk hn hn0 hn1 ⊢
 have hck := eQ l k
 have hct := gE l[k]!
 have b1 := jK l[k]!.th (most - n) 0
 have b2 := fun z => jK l[k]!.el z 0
 have b3 := CX l[k]! most n
 have b4 := jK (l.drop (k + 1)) most (Cq most n l[k]!)
 have b5 := Dq most n l k
 rw [FJ] at b3 b4 b5
 repeat' (first|(apply aF;(apply aB (k := 86);rfl;(apply ih <;> omega);exact Pur.pf;rfl))|refine aE ?_|(refine aL ?_ ?_ <;> intro hc hq <;> try (exfalso;omega))|(refine cS ?_ ?_ <;> intro hg hq <;> try (exfalso;omega))|refine eS ?_|fail)
 ·(refine c9 (k + 1, n + 1 + kE (most - n) 0 l[k]!.th + kE (most - (n + 1 + kE (most - n) 0 l[k]!.th)) 0 l[k]!.el) (Le.renA []) ?_ ?_)
  ·dsimp only;grind
  ·dsimp only;omega
 ·(refine c9 (k + 1, n + 1 + kE (most - n) 0 l[k]!.th) (Le.renA []) ?_ ?_)
  ·dsimp only;grind
  ·dsimp only;omega
 ·(refine ⟨?_, rfl⟩; simp only [aN, AV.v.injEq, Value.bool.injEq, Value.int.injEq, true_and])
  rw [← hn,Dj _ _ _ (by omega)]
 ·(refine ⟨?_, rfl⟩; simp only [aN, AV.v.injEq, Value.bool.injEq, Value.int.injEq, true_and])
  rw [← hn,Es _ _ _ _ (by omega)]
theorem Bk (l:List AL.Stmt) (most:Int) (hs:aJ l ≤ 100000000) (hd0:-1 ≤ most) (hd:most ≤ 1000) :
  PC Tryz.prog 86 [sl aP l,iv most] (fun r => r = iv (kE most 0 l)) := by
 have h : ∀ (m : Nat), m ≤ 100000000 → ∀ l (most : Int), aJ l ≤ m → -1 ≤ most → most ≤ 1000 → PC Tryz.prog 86 [sl aP l, iv most] (fun r => r = iv (kE most 0 l)) := by
  intro m
  induction m using Nat.strongRecOn with
  | ind m ih =>
   intro hm l most h1 h2 h3
   exact yE m (fun l' most' g1 g2 g3 => ih _ g1 (by omega) l' most' (Nat.le_refl _) g2 g3) l most h1 hm h2 h3
 exact h _ hs l most (Nat.le_refl _) hd0 hd
theorem BM (ts:List Int) (l:List AL.Stmt) (d:Int) (hl:bO ts = true) (hs:aJ l ≤ 100000000) (hd0:0 ≤ d) (hd:d ≤ 1000):PC Tryz.prog 85 [sl cI ts,sl aP l,iv d] (fun r => r = bv (okL ts d.toNat l)) :=
 (F0 ts hl _ hs).2 l d (Nat.le_refl _) hd0 hd
theorem rE (ts:List Int) (hl:ts.length ≤ 1048576):PC Tryz.prog 84 [sl cI ts] (fun r => r = bv (bO ts)):=by
 refine aD Tryz.func84 Tryz.ntmps84 ?_
 repeat' (first|refine aE ?_|fail)
 refine aK (σ := Nat) [0] [] (fun k => [(3,iv (k : Int))]) (fun k => []) (fun k => k ≤ ts.length ∧ ∀ i,i < k → 1 ≤ ts[i]! ∧ ts[i]! ≤ 4) (fun k => ts.length - k) (0) ⟨by omega,by omega⟩ ?_
 intro k ⟨hk,hall⟩
 repeat' (first|refine aE ?_|(refine aL ?_ ?_ <;> intro hc hq <;> try (exfalso;omega))|(refine cS ?_ ?_ <;> intro hg hq <;> try (exfalso;omega))|refine eS ?_|fail)
 ·(refine ⟨?_, rfl⟩; simp only [aN, AV.v.injEq, Value.bool.injEq, Value.int.injEq, true_and])
  unfold bO;grind [j4,j1]
 ·(refine c9 (k + 1) (Le.renA []) ?_ ?_)
  ·grind
  ·omega
 ·(refine ⟨?_, rfl⟩; simp only [aN, AV.v.injEq, Value.bool.injEq, Value.int.injEq, true_and])
  unfold bO;grind [j4,j1]
 ·(refine ⟨?_, rfl⟩; simp only [aN, AV.v.injEq, Value.bool.injEq, Value.int.injEq, true_and])
  unfold bO;grind [j4,j1]
theorem pM (p:Prg) (hl:p.types.length ≤ 1048576) (hs:aJ p.body ≤ 100000000):PC Tryz.prog 40 [cJ p] (fun r => r = bv (cL p)):=by
 unfold cL
 cases ht : bO p.types
 ·refine aD Tryz.func40 Tryz.ntmps40 ?_
  repeat' (first|(apply aF;(apply aB (k := 84);rfl;(apply rE <;> (assumption));exact Pur.pf;rfl))|refine aE ?_|refine eS ?_|fail)
  (refine ⟨?_,rfl⟩; simp only [aN,AV.v.injEq,Value.bool.injEq,Value.int.injEq,true_and])
  rfl
 ·refine aD Tryz.func40 Tryz.ntmps40 ?_
  repeat' (first|(apply aF;(first|(apply aB (k := 84);rfl;(apply rE <;> (assumption));exact Pur.pf;rfl)|(apply aB (k := 85);rfl;(apply BM <;> (first|assumption|omega));exact Pur.pf;rfl)|(apply aB (k := 86);rfl;(apply Bk <;> (first|assumption|omega));exact Pur.pf;rfl)))|refine aE ?_|(refine cS ?_ ?_ <;> intro hg hq <;> try (exfalso;omega))|refine eS ?_|fail)
  ·(refine ⟨?_, rfl⟩; simp only [aN, AV.v.injEq, Value.bool.injEq, Value.int.injEq, true_and])
   rw [show okL p.types 4 p.body = true from hq]; simp only [Bool.true_and,GP,decide_eq_decide]; omega
  ·(refine ⟨?_, rfl⟩; simp only [aN, AV.v.injEq, Value.bool.injEq, Value.int.injEq, true_and])
   rw [show okL p.types 4 p.body = false from hq]; rfl
end Go.Proofs.YtgkalkgplcdnkaaGreat
namespace Go.Proofs.YtgkalkgplcdnkaaGreat
open Go.AL Go.RowKit
variable {N : Nat} {Q : Exit → AS → Prop} {all : Array Oper} {rest : List Oper} {tsl : List (Nat × AV)} {hsl : List (Nat × Option (List AV))} {nidl : Nat} {z0 : Lo} {md : Md} {d : Nat} {ty : TypeId} {pos : String} {af : Array Edge} {tys : Array TypeId}
theorem Fs {ts:List Int}{s:AL.Stmt}{nest c:Int}{x0 x1 x2 x3:Operand}{i0:Nat}(ha0:ev (lk tsl) x0 = some (sl cI ts)) (ha1:ev (lk tsl) x1 = some (bY s)) (ha2:ev (lk tsl) x2 = some (iv nest)) (ha3:ev (lk tsl) x3 = some (.optr i0 0)) (hH0:aO hsl i0 = some ([iv c])) (hmc:MC Tryz.prog 138 [sl cI ts,bY s,iv nest,.optr 0 0] [(0,some ([iv c]))] 1 (fun _:Unit => True) (fun _ => bv (iX ts nest c s).1) (fun _ => [(0,some ([iv (iX ts nest c s).2]))])) (hM:Nat.ble (nidl + 0) cW = true) (hN:Nat.blt d N = true){md':Md}[hmd:MdA md (fH [x0,x1,x2,x3] ++ [.inr i0]) (List.map Sum.inr (List.map Prod.fst ([(i0,some ([iv (iX ts nest c s).2]))]:List (Nat × Option (List AV)))) ++ [.inl d]) md'] (kk:RW Tryz.prog N all Q md' rest ⟨(d,bv (iX ts nest c s).1) :: tsl,gH hsl [(i0,some ([iv (iX ts nest c s).2]))],nidl + 0,z0⟩):RW Tryz.prog N all Q md (⟨some d,.call ⟨.value (.func 138),#[x0,x1,x2,x3],tys⟩,ty,pos,af,none⟩ :: rest) ⟨tsl,hsl,nidl,z0⟩:=by
 exact aZ (l := [x0,x1,x2,x3]) [i0] 1 [(i0,some ([iv (iX ts nest c s).2]))] hmc (avs := [sl cI ts,bY s,iv nest,.optr i0 0]) (by simp only [evL,ha0,ha1,ha2,ha3]) rfl hM hN (md' := md') (hmd := hmd) kk
theorem o9 {ts:List Int}{l:List AL.Stmt}{nest c:Int}{x0 x1 x2 x3:Operand}{i0:Nat}(ha0:ev (lk tsl) x0 = some (sl cI ts)) (ha1:ev (lk tsl) x1 = some (sl aP l)) (ha2:ev (lk tsl) x2 = some (iv nest)) (ha3:ev (lk tsl) x3 = some (.optr i0 0)) (hH0:aO hsl i0 = some ([iv c])) (hmc:MC Tryz.prog 90 [sl cI ts,sl aP l,iv nest,.optr 0 0] [(0,some ([iv c]))] 1 (fun _:Unit => True) (fun _ => bv (gS ts nest c l).1) (fun _ => [(0,some ([iv (gS ts nest c l).2]))])) (hM:Nat.ble (nidl + 0) cW = true) (hN:Nat.blt d N = true){md':Md}[hmd:MdA md (fH [x0,x1,x2,x3] ++ [.inr i0]) (List.map Sum.inr (List.map Prod.fst ([(i0,some ([iv (gS ts nest c l).2]))]:List (Nat × Option (List AV)))) ++ [.inl d]) md'] (kk:RW Tryz.prog N all Q md' rest ⟨(d,bv (gS ts nest c l).1) :: tsl,gH hsl [(i0,some ([iv (gS ts nest c l).2]))],nidl + 0,z0⟩):RW Tryz.prog N all Q md (⟨some d,.call ⟨.value (.func 90),#[x0,x1,x2,x3],tys⟩,ty,pos,af,none⟩ :: rest) ⟨tsl,hsl,nidl,z0⟩:=by
 exact aZ (l := [x0,x1,x2,x3]) [i0] 1 [(i0,some ([iv (gS ts nest c l).2]))] hmc (avs := [sl cI ts,sl aP l,iv nest,.optr i0 0]) (by simp only [evL,ha0,ha1,ha2,ha3]) rfl hM hN (md' := md') (hmd := hmd) kk
theorem FA (ts:List Int) (htO:bO ts = true) (m:Nat) (scanAll_ih:∀ l nest c,aJ l < m → 0 ≤ nest → nest ≤ 4 → 0 ≤ c → c ≤ 30 → MC Tryz.prog 90 [sl cI ts,sl aP l,iv nest,.optr 0 0] [(0,some ([iv c]))] 1 (fun _:Unit => True) (fun _ => bv (gS ts nest c l).1) (fun _ => [(0,some ([iv (gS ts nest c l).2]))])) (s:AL.Stmt) (nest c:Int) (hs:cM s ≤ m) (hn0:0 ≤ nest) (hn:nest ≤ 4) (hc0:0 ≤ c) (hc:c ≤ 30):MC Tryz.prog 138 [sl cI ts,bY s,iv nest,.optr 0 0] [(0,some ([iv c]))] 1 (fun _:Unit => True) (fun _ => bv (iX ts nest c s).1) (fun _ => [(0,some ([iv (iX ts nest c s).2]))]):=by
 have ct := gE s
 have hb1 := GJ ts s.th (nest + 1) (c + 1)
 refine aT Tryz.func138 Tryz.ntmps138 ?_
 repeat' (first|(apply aF;(first|(apply o9;rfl;rfl;rfl;rfl;(rfl);(apply scanAll_ih <;> (first|assumption|omega|grind));rfl;rfl)|(apply aB (k := 174);rfl;(apply yU);(rfl);rfl)|(apply aB (k := 175);rfl;(apply yQ <;> (assumption));exact Pur.pf;rfl)))|refine aE ?_|(refine aL ?_ ?_ <;> intro hc hq <;> try (exfalso;omega))|(refine cS ?_ ?_ <;> intro hg hq <;> try (exfalso;omega))|fail)
 all_goals (refine aC rfl ?_; refine aQ () trivial ?_ ⟨sE ?_,trivial⟩)
 all_goals (try simp only [aN,AV.v.injEq,Value.bool.injEq,Value.int.injEq,true_and,eR,List.take,List.drop,List.length,List.append,List.nil_append,List.append_nil,Option.some.injEq,List.cons.injEq,and_true])
 all_goals rw [Eo]
 all_goals clear scanAll_ih
 all_goals (cases hel : s.el <;> simp only [hel,List.length_nil,List.length_cons] at * <;> grind)
theorem xW (ts:List Int) (m:Nat) (hm:m ≤ 100000000) (scan_ih:∀ s nest c,cM s ≤ m → 0 ≤ nest → nest ≤ 4 → 0 ≤ c → c ≤ 30 → MC Tryz.prog 138 [sl cI ts,bY s,iv nest,.optr 0 0] [(0,some ([iv c]))] 1 (fun _:Unit => True) (fun _ => bv (iX ts nest c s).1) (fun _ => [(0,some ([iv (iX ts nest c s).2]))])) (l:List AL.Stmt) (nest c:Int) (hs:aJ l ≤ m) (hn0:0 ≤ nest) (hn:nest ≤ 4) (hc0:0 ≤ c) (hc:c ≤ 30):MC Tryz.prog 90 [sl cI ts,sl aP l,iv nest,.optr 0 0] [(0,some ([iv c]))] 1 (fun _:Unit => True) (fun _ => bv (gS ts nest c l).1) (fun _ => [(0,some ([iv (gS ts nest c l).2]))]):=by
 have hlen := dO l
 refine aT Tryz.func90 Tryz.ntmps90 ?_
 repeat' (first|refine aE ?_|fail)
 refine aK (σ := Nat × Int) [0,2,3,11,12] [] (fun k => [(13,iv (k.1 : Int))]) (fun k => [(0,some [iv k.2])]) (fun k => k.1 ≤ l.length ∧ gS ts nest k.2 (l.drop k.1) = gS ts nest c l ∧ 0 ≤ k.2 ∧ k.2 ≤ 30) (fun k => l.length - k.1) (0,c) ⟨by omega,rfl,by omega,by omega⟩ ?_
 rintro ⟨k,c'⟩ ⟨hk,hn,hn0,hn1⟩
 dsimp only at hk hn hn0 hn1 ⊢
 have hck := eQ l k
 have hb1 := Hh ts l[k]! nest c'
 have hst := @scL_stop ts nest c' l k
 repeat' (first|(apply aF;(apply Fs;rfl;rfl;rfl;rfl;(rfl);(apply scan_ih <;> (first|assumption|omega));rfl;rfl))|refine aE ?_|(refine aL ?_ ?_ <;> intro hc hq <;> try (exfalso;omega))|fail)
 ·(refine aC rfl ?_; refine aQ () trivial ?_ ⟨sE ?_, trivial⟩)
  all_goals (try simp only [aN,AV.v.injEq,Value.bool.injEq,Value.int.injEq,true_and,eR,List.take,List.drop,List.length,List.append,List.nil_append,List.append_nil,Option.some.injEq,List.cons.injEq,and_true])
  all_goals (rw [← hn,hst (by omega)]; grind)
 ·(refine c9 (k + 1, (iX ts nest c' l[k]!).2) (Le.renA []) ?_ ?_)
  ·dsimp only;grind
  ·dsimp only;omega
 ·(refine aC rfl ?_; refine aQ () trivial ?_ ⟨sE ?_, trivial⟩)
  all_goals (try simp only [aN,AV.v.injEq,Value.bool.injEq,Value.int.injEq,true_and,eR,List.take,List.drop,List.length,List.append,List.nil_append,List.append_nil,Option.some.injEq,List.cons.injEq,and_true])
  all_goals (rw [← hn,List.drop_of_length_le (by omega),gS])
theorem A5 (ts:List Int) (hl:bO ts = true):∀ (m:Nat),m ≤ 100000000 → (∀ s (nest c:Int),cM s ≤ m → 0 ≤ nest → nest ≤ 4 → 0 ≤ c → c ≤ 30 → MC Tryz.prog 138 [sl cI ts,bY s,iv nest,.optr 0 0] [(0,some ([iv c]))] 1 (fun _:Unit => True) (fun _ => bv (iX ts nest c s).1) (fun _ => [(0,some ([iv (iX ts nest c s).2]))])) ∧
  (∀ l (nest c : Int),aJ l ≤ m → 0 ≤ nest → nest ≤ 4 → 0 ≤ c → c ≤ 30 → MC Tryz.prog 90 [sl cI ts,sl aP l,iv nest,.optr 0 0] [(0,some ([iv c]))] 1 (fun _ : Unit => True) (fun _ => bv (gS ts nest c l).1) (fun _ => [(0,some ([iv (gS ts nest c l).2]))])) := by
 intro m
 induction m using Nat.strongRecOn with
 | ind m ih =>
  intro hm
  have h1 : ∀ s (nest c : Int), cM s ≤ m → 0 ≤ nest → nest ≤ 4 → 0 ≤ c → c ≤ 30 → MC Tryz.prog 138 [sl cI ts, bY s, iv nest, .optr 0 0] [(0, some ([iv c]))] 1 (fun _ : Unit => True) (fun _ => bv (iX ts nest c s).1) (fun _ => [(0, some ([iv (iX ts nest c s).2]))]) :=
   fun s nest c h1 h2 h3 h4 h5 => FA ts hl m (fun l nest c g1 g2 g3 g4 g5 => (ih (aJ l) g1 (by omega)).2 l nest c (Nat.le_refl _) g2 g3 g4 g5) s nest c h1 h2 h3 h4 h5
  exact ⟨h1,fun l nest c g1 g2 g3 g4 g5 => xW ts m hm h1 l nest c g1 g2 g3 g4 g5⟩
theorem AA (ts:List Int) (l:List AL.Stmt) (nest c:Int) (hl:bO ts = true) (hs:aJ l ≤ 100000000) (hn0:0 ≤ nest) (hn:nest ≤ 4) (hc0:0 ≤ c) (hc:c ≤ 30):MC Tryz.prog 90 [sl cI ts,sl aP l,iv nest,.optr 0 0] [(0,some ([iv c]))] 1 (fun _:Unit => True) (fun _ => bv (gS ts nest c l).1) (fun _ => [(0,some ([iv (gS ts nest c l).2]))]) :=
 (A5 ts hl _ hs).2 l nest c (Nat.le_refl _) hn0 hn hc0 hc
theorem w5 (t:Int):PC Tryz.prog 137 [iv t] (fun r => r = bv (!(decide (1 ≤ t) && decide (t ≤ 4)))):=by
 refine aD Tryz.func137 Tryz.ntmps137 ?_
 repeat' (first|(apply aF;(apply aB (k := 55);rfl;(apply cH);(rfl);rfl))|refine aE ?_|refine eS ?_|fail)
 all_goals (refine ⟨?_,rfl⟩; simp only [aN,AV.v.injEq,Value.bool.injEq,Value.int.injEq,true_and])
def oU (ts : List Int) : Int := match ts.findIdx? (fun t => !(decide (1 ≤ t) && decide (t ≤ 4))) with | some i => i | none => -1
theorem C0 (ts:List Int) (hl:ts.length ≤ 1048576):PC Tryz.prog 156 [sl cI ts,.v (.func (.func 137) #[] #[])] (fun r => r = iv (oU ts)):=by
 refine aD Tryz.func156 Tryz.ntmps156 ?_
 repeat' (first|refine aE ?_|fail)
 refine aK (σ := Nat) [0,1,7] [] (fun k => [(8,iv (k : Int))]) (fun k => []) (fun k => k ≤ ts.length ∧ ∀ i,i < k → 1 ≤ ts[i]! ∧ ts[i]! ≤ 4) (fun k => ts.length - k) (0) ⟨by omega,by omega⟩ ?_
 intro k ⟨hk,hall⟩
 repeat' (first|(apply aF;(apply lW;rfl;rfl;infer_instance;rfl;(apply w5);(rfl);rfl))|refine aE ?_|(refine aL ?_ ?_ <;> intro hc hq <;> try (exfalso;omega))|refine eS ?_|fail)
 ·(refine ⟨?_, rfl⟩; simp only [aN, AV.v.injEq, Value.bool.injEq, Value.int.injEq, true_and])
  have hlt : k < ts.length := by omega
  have : ts.findIdx? (fun t => !(decide (1 ≤ t) && decide (t ≤ 4))) = some k := by
   rw [List.findIdx?_eq_some_iff_getElem]
   refine ⟨hlt,?_,fun j hj => ?_⟩
   ·rw [← aW ts k hlt]; grind
   ·have := hall j hj;rw [aW ts j (by omega)] at this;simp;omega
  simp only [oU,this]
 ·(refine c9 (k + 1) (Le.renA []) ?_ ?_)
  ·grind
  ·omega
 ·(refine ⟨?_, rfl⟩; simp only [aN, AV.v.injEq, Value.bool.injEq, Value.int.injEq, true_and])
  have : ts.findIdx? (fun t => !(decide (1 ≤ t) && decide (t ≤ 4))) = none := by
   rw [List.findIdx?_eq_none_iff]
   intro x hx
   obtain ⟨i,hi,rfl⟩ := List.getElem_of_mem hx
   have := hall i (by omega);rw [aW ts i hi] at this;simp;omega
  simp only [oU,this]
theorem A8 (ts:List Int):decide (0 ≤ oU ts) = !(ts.all (fun t => decide (1 ≤ t) && decide (t ≤ 4))):=by
 unfold oU
 split
 ·rename_i i h
  obtain ⟨h1,h2,_⟩ := List.findIdx?_eq_some_iff_getElem.1 h
  have : ts.all (fun t => decide (1 ≤ t) && decide (t ≤ 4)) = false := by
   rw [List.all_eq_false]; exact ⟨ts[i],List.getElem_mem h1,by simp at h2 ⊢; omega⟩
  rw [this]; simp
 ·rename_i h
  rw [List.findIdx?_eq_none_iff] at h
  have : ts.all (fun t => decide (1 ≤ t) && decide (t ≤ 4)) = true := by
   rw [List.all_eq_true]; intro x hx;simpa using h x hx
  rw [this]; rfl
theorem Br (ts:List Int) (hl:ts.length ≤ 1048576):PC Tryz.prog 115 [sl cI ts,.v (.func (.func 137) #[] #[])] (fun r => r = bv (!(ts.all (fun t => decide (1 ≤ t) && decide (t ≤ 4))))):=by
 refine aD Tryz.func115 Tryz.ntmps115 ?_
 repeat' (first|(apply aF;(apply aB (k := 156);rfl;(apply C0 <;> (assumption));exact Pur.pf;rfl))|refine aE ?_|refine eS ?_|fail)
 (refine ⟨?_,rfl⟩; simp only [aN,AV.v.injEq,Value.bool.injEq,Value.int.injEq,true_and])
 exact A8 ts
theorem pO (ts:List Int) (hl:ts.length ≤ 1048576):PC Tryz.prog 89 [sl cI ts] (fun r => r = bv (bO ts)):=by
 refine aD Tryz.func89 Tryz.ntmps89 ?_
 repeat' (first|(apply aF;(apply aB (k := 115);rfl;(apply Br <;> (assumption));exact Pur.pf;rfl))|refine aE ?_|(refine cS ?_ ?_ <;> intro hg hq <;> try (exfalso;omega))|refine eS ?_|fail)
 all_goals (refine ⟨?_,rfl⟩; simp only [aN,AV.v.injEq,Value.bool.injEq,Value.int.injEq,true_and])
 all_goals (unfold bO;grind)
theorem pD (p:Prg) (hl:p.types.length ≤ 1048576) (hs:aJ p.body ≤ 100000000):PC Tryz.prog 45 [cJ p] (fun r => r = bv (cL p)):=by
 rw [← Be]
 cases ht : bO p.types
 ·refine aD Tryz.func45 Tryz.ntmps45 ?_
  repeat' (first|(apply aF;(apply aB (k := 89);rfl;(apply pO <;> (assumption));exact Pur.pf;rfl))|refine aE ?_|refine eS ?_|fail)
  all_goals (refine ⟨?_,rfl⟩; simp only [aN,AV.v.injEq,Value.bool.injEq,Value.int.injEq,true_and])
  all_goals grind
 ·refine aD Tryz.func45 Tryz.ntmps45 ?_
  repeat' (first|(apply aF;(first|(apply aB (k := 89);rfl;(apply pO <;> (assumption));exact Pur.pf;rfl)|(apply o9;rfl;rfl;rfl;rfl;(rfl);(apply AA <;> (first|assumption|omega));rfl;rfl)))|refine aE ?_|refine eS ?_|fail)
  all_goals (refine ⟨?_,rfl⟩; simp only [aN,AV.v.injEq,Value.bool.injEq,Value.int.injEq,true_and])
  all_goals grind
theorem mX {l:List AL.Stmt}{pts:List Pnt}{m:Nat}{x0 x1:Operand}{i0:Nat}(ha0:ev (lk tsl) x0 = some (sl aP l)) (ha1:ev (lk tsl) x1 = some (.own i0 0 m 5)) (hH0:aO hsl i0 = some (aA bZ pts)) (hmc:MC Tryz.prog 94 [sl aP l,.own 0 0 m 5] [(0,some (aA bZ pts))] 1 (fun _:Unit => True) (fun _ => .own 1 0 (m + cY l) 5) (fun _ => [(1,some (aA bZ (pts ++ eY pts.length l)))])) (hM:Nat.ble (nidl + 1) cW = true) (hN:Nat.blt d N = true){md':Md}[hmd:MdA md (fH [x0,x1] ++ [.inr i0]) (List.map Sum.inr (List.map Prod.fst ([(nidl,some (aA bZ (pts ++ eY pts.length l))),(i0,none)]:List (Nat × Option (List AV)))) ++ [.inl d]) md'] (kk:RW Tryz.prog N all Q md' rest ⟨(d,.own nidl 0 (m + cY l) 5) :: tsl,gH hsl [(nidl,some (aA bZ (pts ++ eY pts.length l))),(i0,none)],nidl + 1,z0⟩):RW Tryz.prog N all Q md (⟨some d,.call ⟨.value (.func 94),#[x0,x1],tys⟩,ty,pos,af,none⟩ :: rest) ⟨tsl,hsl,nidl,z0⟩:=by
 exact aZ (l := [x0,x1]) [i0] 2 [(nidl,some (aA bZ (pts ++ eY pts.length l))),(i0,none)] hmc (avs := [sl aP l,.own i0 0 m 5]) (by simp only [evL,ha0,ha1]) rfl hM hN (md' := md') (hmd := hmd) kk
theorem vP (mm:Nat) (hmm:mm ≤ 1048576) (pointsOf_ih:∀ l pts m,aJ l < mm → m = pts.length → m + cY l ≤ 13000000 → MC Tryz.prog 94 [sl aP l,.own 0 0 m 5] [(0,some (aA bZ pts))] 1 (fun _:Unit => True) (fun _ => .own 1 0 (m + cY l) 5) (fun _ => [(1,some (aA bZ (pts ++ eY pts.length l)))])) (l:List AL.Stmt) (pts:List Pnt) (m:Nat) (hs:aJ l ≤ mm) (hm:m = pts.length) (hb:m + cY l ≤ 13000000):MC Tryz.prog 94 [sl aP l,.own 0 0 m 5] [(0,some (aA bZ pts))] 1 (fun _:Unit => True) (fun _ => .own 1 0 (m + cY l) 5) (fun _ => [(1,some (aA bZ (pts ++ eY pts.length l)))]):=by
 have hlen := dO l
 subst hm
 refine aT Tryz.func94 Tryz.ntmps94 ?_
 repeat' (first|refine aE ?_|fail)
 refine AW.le ?_ (Le.mv (d := 1) (i := 0) (cs := aA bZ pts) rfl rfl (by decide))
 refine aK (σ := Nat × List Pnt × Nat) [9,10] [] (fun k => [(11,iv (k.1 : Int)),(1,.own 1 0 k.2.2 5)]) (fun k => [(1,some (aA bZ k.2.1))]) (fun k => k.1 ≤ l.length ∧ k.2.1 = pts ++ eY pts.length (l.take k.1) ∧ k.2.2 = k.2.1.length ∧ k.2.2 = pts.length + cY (l.take k.1)) (fun k => l.length - k.1) (0,pts,pts.length) ⟨by omega,by simp [eY],rfl,by simp [cY]⟩ ?_
 rintro ⟨k,xs,m1⟩ ⟨hk,hxs,hm1,hm2⟩
 dsimp only at hk hxs hm1 hm2 ⊢
 have hck := eQ l k
 have hct := gE l[k]!
 have hnt := xX l k
 have n9 := Cx l[k]!
 have n10 := yL l[k]!
 have n1 := BT l[k]!
 repeat' (first|(apply aF;first|(apply aM (t := _);rfl;rfl;rfl;(first|exact (rfl:_=some [_])|exact (rfl:_=some [_,_])|exact (rfl:_=some [_,_,_,_,_]));rfl;rfl)|(apply mX;rfl;rfl;(rfl);(apply pointsOf_ih <;> (first|omega|(simp only [kH] <;> omega)));rfl;rfl))|refine aE ?_|(refine aL ?_ ?_ <;> intro hc hq <;> try (exfalso;omega))|fail)
 ·(refine c9 (k + 1, _, _) (Le.renA [(1, 8)]) ?_ ?_)
  ·dsimp only
   rw [tJ hm1,rQ hm1,sX (by rw [bI,hm1]),rV (by rw [bI,hm1]),eI l _ k (by omega),dZ l k (by omega),fR,if_pos hq,n9 hq]
   refine ⟨by omega,?_,by simp [bI]; omega,by omega⟩
   have e1 : xs.length = pts.length + cY (l.take k) := by omega
   rw [← List.append_assoc pts,← hxs,← e1]
   simp only [List.append_assoc,List.length_append,List.length_cons,List.length_nil,bI,hm1,Nat.zero_add]
   clear pointsOf_ih hxs hck hnt n9 n10 n1
   grind
  ·dsimp only;omega
 ·(refine c9 (k + 1, _, _) (Le.renA [(1, 8)]) ?_ ?_)
  ·dsimp only
   rw [yP hm1,wV hm1,eI l _ k (by omega),dZ l k (by omega),fR,if_neg (by omega),if_pos hq,n10 hq]
   refine ⟨by omega,?_,by simp [bI]; omega,by omega⟩
   have e1 : xs.length = pts.length + cY (l.take k) := by omega
   rw [← List.append_assoc pts,← hxs,← e1]
   simp only [List.append_assoc,List.length_append,List.length_cons,List.length_nil,bI,hm1,Nat.zero_add]
   clear pointsOf_ih hxs hck hnt n9 n10 n1
   grind
  ·dsimp only;omega
 ·(refine c9 (k + 1, _, _) (Le.renA [(1, 5)]) ?_ ?_)
  ·dsimp only
   rw [eI l _ k (by omega),dZ l k (by omega),fR,if_neg ‹¬l[k]!.op = 9›,if_neg hq,n1 ‹¬l[k]!.op = 9› hq]
   refine ⟨by omega,?_,by simp [bI]; omega,by omega⟩
   have e1 : xs.length = pts.length + cY (l.take k) := by omega
   rw [← List.append_assoc pts,← hxs,← e1,hm1]
  ·dsimp only;omega
 ·refine aC rfl ?_
  have e2 : l.take k = l := List.take_of_length_le (by omega)
  rw [e2] at hxs hm2
  refine aQ () trivial ?_ ⟨sE ?_,trivial⟩
  ·simp only [aN]; rw [hm2]
  ·rw [hxs]
theorem yS (l:List AL.Stmt) (pts:List Pnt) (m:Nat) (hs:aJ l ≤ 1048576) (hm:m = pts.length) (hb:m + cY l ≤ 13000000):MC Tryz.prog 94 [sl aP l,.own 0 0 m 5] [(0,some (aA bZ pts))] 1 (fun _:Unit => True) (fun _ => .own 1 0 (m + cY l) 5) (fun _ => [(1,some (aA bZ (pts ++ eY pts.length l)))]):=by
 have h : ∀ (mm : Nat), mm ≤ 1048576 → ∀ l pts m, aJ l ≤ mm → m = pts.length → m + cY l ≤ 13000000 → MC Tryz.prog 94 [sl aP l, .own 0 0 m 5] [(0, some (aA bZ pts))] 1 (fun _ : Unit => True) (fun _ => .own 1 0 (m + cY l) 5) (fun _ => [(1, some (aA bZ (pts ++ eY pts.length l)))]) := by
  intro mm
  induction mm using Nat.strongRecOn with
  | ind mm ih =>
   intro h0 l pts m h1 h2 h3
   exact vP mm h0 (fun l' pts' m' g1 g2 g3 => ih _ g1 (by omega) l' pts' m' (Nat.le_refl _) g2 g3) l pts m h1 h2 h3
 exact h _ hs l pts m (Nat.le_refl _) hm hb
theorem sT {l:List AL.Stmt}{x0 x1:Operand}(ha0:ev (lk tsl) x0 = some (sl aP l)) (ha1:ev (lk tsl) x1 = some (.v (.slice none 0 0))) (hmc:MC Tryz.prog 94 [sl aP l,.v (.slice none 0 0)] [] 0 (fun _:Unit => True) (fun _ => .own 0 0 (cY l) 5) (fun _ => [(0,some (aA bZ (eY 0 l)))])) (hM:Nat.ble (nidl + 1) cW = true) (hN:Nat.blt d N = true){md':Md}[hmd:MdA md (fH [x0,x1] ++ []) (List.map Sum.inr (List.map Prod.fst ([(nidl,some (aA bZ (eY 0 l)))]:List (Nat × Option (List AV)))) ++ [.inl d]) md'] (kk:RW Tryz.prog N all Q md' rest ⟨(d,.own nidl 0 (cY l) 5) :: tsl,gH hsl [(nidl,some (aA bZ (eY 0 l)))],nidl + 1,z0⟩):RW Tryz.prog N all Q md (⟨some d,.call ⟨.value (.func 94),#[x0,x1],tys⟩,ty,pos,af,none⟩ :: rest) ⟨tsl,hsl,nidl,z0⟩:=by
 exact aZ (l := [x0,x1]) [] 1 [(nidl,some (aA bZ (eY 0 l)))] hmc (avs := [sl aP l,.v (.slice none 0 0)]) (by simp only [evL,ha0,ha1]) rfl hM hN (md' := md') (hmd := hmd) kk
theorem wB (l:List AL.Stmt) (hs:aJ l ≤ 1048576):MC Tryz.prog 94 [sl aP l,.v (.slice none 0 0)] [] 0 (fun _:Unit => True) (fun _ => .own 0 0 (cY l) 5) (fun _ => [(0,some (aA bZ (eY 0 l)))]):=by
 have hlen := dO l
 have hn2 := iV l
 refine aT Tryz.func94 Tryz.ntmps94 ?_
 repeat' (first|refine aE ?_|fail)
 refine AW.le ?_ (Le.nilOwn (d := 1) 5 rfl (by decide))
 refine aK (σ := Nat × List Pnt × Nat) [9,10] [] (fun k => [(11,iv (k.1 : Int)),(1,.own 0 0 k.2.2 5)]) (fun k => [(0,some (aA bZ k.2.1))]) (fun k => k.1 ≤ l.length ∧ k.2.1 = eY 0 (l.take k.1) ∧ k.2.2 = k.2.1.length ∧ k.2.2 = cY (l.take k.1)) (fun k => l.length - k.1) (0,[],0) ⟨by omega,by simp [eY],rfl,by simp [cY]⟩ ?_
 rintro ⟨k,xs,m1⟩ ⟨hk,hxs,hm1,hm2⟩
 dsimp only at hk hxs hm1 hm2 ⊢
 have hck := eQ l k
 have hct := gE l[k]!
 have hnt := xX l k
 have n9 := Cx l[k]!
 have n10 := yL l[k]!
 have n1 := BT l[k]!
 repeat' (first|(apply aF;first|(apply aM (t := _);rfl;rfl;rfl;(first|exact (rfl:_=some [_])|exact (rfl:_=some [_,_])|exact (rfl:_=some [_,_,_,_,_]));rfl;rfl)|(apply mX;rfl;rfl;(rfl);(apply yS <;> (first|omega|(simp only [kH] <;> omega)));rfl;rfl))|refine aE ?_|(refine aL ?_ ?_ <;> intro hc hq <;> try (exfalso;omega))|fail)
 ·(refine c9 (k + 1, _, _) (Le.renA [(0, 7)]) ?_ ?_)
  ·dsimp only
   rw [tJ hm1,rQ hm1,sX (by rw [bI,hm1]),rV (by rw [bI,hm1]),eI l _ k (by omega),dZ l k (by omega),fR,if_pos hq,n9 hq]
   refine ⟨by omega,?_,by simp [bI]; omega,by omega⟩
   have e1 : cY (l.take k) = xs.length := by omega
   rw [Nat.zero_add,e1]
   rw [← hxs]
   simp only [List.append_assoc,List.length_append,List.length_cons,List.length_nil,bI,hm1,Nat.zero_add]
   clear hxs hck hnt n9 n10 n1
   grind
  ·dsimp only;omega
 ·(refine c9 (k + 1, _, _) (Le.renA [(0, 7)]) ?_ ?_)
  ·dsimp only
   rw [yP hm1,wV hm1,eI l _ k (by omega),dZ l k (by omega),fR,if_neg (by omega),if_pos hq,n10 hq]
   refine ⟨by omega,?_,by simp [bI]; omega,by omega⟩
   have e1 : cY (l.take k) = xs.length := by omega
   rw [Nat.zero_add,e1]
   rw [← hxs]
   simp only [List.append_assoc,List.length_append,List.length_cons,List.length_nil,bI,hm1,Nat.zero_add]
   clear hxs hck hnt n9 n10 n1
   grind
  ·dsimp only;omega
 ·(refine c9 (k + 1, _, _) (Le.renA [(0, 4)]) ?_ ?_)
  ·dsimp only
   rw [eI l _ k (by omega),dZ l k (by omega),fR,if_neg ‹¬l[k]!.op = 9›,if_neg hq,n1 ‹¬l[k]!.op = 9› hq]
   refine ⟨by omega,?_,by simp [bI]; omega,by omega⟩
   have e1 : cY (l.take k) = xs.length := by omega
   rw [Nat.zero_add,e1]
   rw [← hxs,hm1]
  ·dsimp only;omega
 ·refine aC rfl ?_
  have e2 : l.take k = l := List.take_of_length_le (by omega)
  rw [e2] at hxs hm2
  refine aQ () trivial ?_ ⟨sE ?_,trivial⟩
  ·simp only [aN]; rw [hm2]
  ·rw [hxs]
theorem CU (p:Prg) (hs:aJ p.body ≤ 1048576):PC Tryz.prog 109 [cJ p] (fun r => r = sl bZ (bJ p)):=by
 have hn := iV p.body
 refine aD Tryz.func109 Tryz.ntmps109 ?_
 repeat' (first|(apply aF;first|(apply aM (t := _);rfl;rfl;rfl;(exact (rfl:_=some [_,_,_,_,_]));rfl;rfl)|(apply sT;rfl;rfl;(apply wB <;> (assumption));rfl;rfl))|refine aE ?_|fail)
 (refine bD (Le.frzD (d := 2) (i := 3) rfl rfl) ?_; refine aC rfl ?_)
 refine ⟨?_,?_⟩
 ·simp only [aN,sl,bJ,List.length_append,List.length_cons,List.length_nil,bI,Nat.zero_add]
 ·(exact cR _ _)
theorem tW {l:List AL.Stmt}{pts:List Pnt}{m:Nat}{x0 x1:Operand}{i0:Nat}(ha0:ev (lk tsl) x0 = some (.own i0 0 m 5)) (ha1:ev (lk tsl) x1 = some (sl aP l)) (hH0:aO hsl i0 = some (aA bZ pts)) (hmc:MC Tryz.prog 74 [.own 0 0 m 5,sl aP l] [(0,some (aA bZ pts))] 1 (fun _:Unit => True) (fun _ => .own 1 0 (m + cY l) 5) (fun _ => [(1,some (aA bZ (pts ++ eY pts.length l)))])) (hM:Nat.ble (nidl + 1) cW = true) (hN:Nat.blt d N = true){md':Md}[hmd:MdA md (fH [x0,x1] ++ [.inr i0]) (List.map Sum.inr (List.map Prod.fst ([(nidl,some (aA bZ (pts ++ eY pts.length l))),(i0,none)]:List (Nat × Option (List AV)))) ++ [.inl d]) md'] (kk:RW Tryz.prog N all Q md' rest ⟨(d,.own nidl 0 (m + cY l) 5) :: tsl,gH hsl [(nidl,some (aA bZ (pts ++ eY pts.length l))),(i0,none)],nidl + 1,z0⟩):RW Tryz.prog N all Q md (⟨some d,.call ⟨.value (.func 74),#[x0,x1],tys⟩,ty,pos,af,none⟩ :: rest) ⟨tsl,hsl,nidl,z0⟩:=by
 exact aZ (l := [x0,x1]) [i0] 2 [(nidl,some (aA bZ (pts ++ eY pts.length l))),(i0,none)] hmc (avs := [.own i0 0 m 5,sl aP l]) (by simp only [evL,ha0,ha1]) rfl hM hN (md' := md') (hmd := hmd) kk
theorem Ea (mm:Nat) (hmm:mm ≤ 1048576) (l2Add_ih:∀ l pts m,aJ l < mm → m = pts.length → m + cY l ≤ 13000000 → MC Tryz.prog 74 [.own 0 0 m 5,sl aP l] [(0,some (aA bZ pts))] 1 (fun _:Unit => True) (fun _ => .own 1 0 (m + cY l) 5) (fun _ => [(1,some (aA bZ (pts ++ eY pts.length l)))])) (l:List AL.Stmt) (pts:List Pnt) (m:Nat) (hs:aJ l ≤ mm) (hm:m = pts.length) (hb:m + cY l ≤ 13000000):MC Tryz.prog 74 [.own 0 0 m 5,sl aP l] [(0,some (aA bZ pts))] 1 (fun _:Unit => True) (fun _ => .own 1 0 (m + cY l) 5) (fun _ => [(1,some (aA bZ (pts ++ eY pts.length l)))]):=by
 have hlen := dO l
 subst hm
 refine aT Tryz.func74 Tryz.ntmps74 ?_
 repeat' (first|refine aE ?_|fail)
 refine AW.le ?_ (Le.mv (d := 0) (i := 0) (cs := aA bZ pts) rfl rfl (by decide))
 refine aK (σ := Nat × List Pnt × Nat) [1] [] (fun k => [(5,iv (k.1 : Int)),(0,.own 1 0 k.2.2 5)]) (fun k => [(1,some (aA bZ k.2.1))]) (fun k => k.1 ≤ l.length ∧ k.2.1 = pts ++ eY pts.length (l.take k.1) ∧ k.2.2 = k.2.1.length ∧ k.2.2 = pts.length + cY (l.take k.1)) (fun k => l.length - k.1) (0,pts,pts.length) ⟨by omega,by simp [eY],rfl,by simp [cY]⟩ ?_
 rintro ⟨k,xs,m1⟩ ⟨hk,hxs,hm1,hm2⟩
 dsimp only at hk hxs hm1 hm2 ⊢
 have hck := eQ l k
 have hct := gE l[k]!
 have hnt := xX l k
 have n9 := Cx l[k]!
 have n10 := yL l[k]!
 have n1 := BT l[k]!
 repeat' (first|(apply aF;first|(apply aM (t := _);rfl;rfl;rfl;(first|exact (rfl:_=some [_])|exact (rfl:_=some [_,_])|exact (rfl:_=some [_,_,_,_,_]));rfl;rfl)|(apply tW;rfl;rfl;(rfl);(apply l2Add_ih <;> (first|omega|(simp only [kH] <;> omega)));rfl;rfl))|refine aE ?_|(refine aL ?_ ?_ <;> intro hc hq <;> try (exfalso;omega))|fail)
 ·(refine c9 (k + 1, _, _) (Le.renA [(1, 8)]) ?_ ?_)
  ·dsimp only
   rw [sX (by rw [bI,hm1]),rV (by rw [bI,hm1]),tJ hm1,rQ hm1,eI l _ k (by omega),dZ l k (by omega),fR,if_pos hq,n9 hq]
   refine ⟨by omega,?_,by simp [bI]; omega,by omega⟩
   have e1 : xs.length = pts.length + cY (l.take k) := by omega
   rw [← List.append_assoc pts,← hxs,← e1]
   simp only [List.append_assoc,List.length_append,List.length_cons,List.length_nil,bI,hm1,Nat.zero_add]
   clear l2Add_ih hxs hck hnt n9 n10 n1
   grind
  ·dsimp only;omega
 ·(refine c9 (k + 1, _, _) (Le.renA [(1, 8)]) ?_ ?_)
  ·dsimp only
   rw [yP hm1,wV hm1,eI l _ k (by omega),dZ l k (by omega),fR,if_neg (by omega),if_pos hq,n10 hq]
   refine ⟨by omega,?_,by simp [bI]; omega,by omega⟩
   have e1 : xs.length = pts.length + cY (l.take k) := by omega
   rw [← List.append_assoc pts,← hxs,← e1]
   simp only [List.append_assoc,List.length_append,List.length_cons,List.length_nil,bI,hm1,Nat.zero_add]
   clear l2Add_ih hxs hck hnt n9 n10 n1
   grind
  ·dsimp only;omega
 ·(refine c9 (k + 1, _, _) (Le.renA [(1, 5)]) ?_ ?_)
  ·dsimp only
   rw [eI l _ k (by omega),dZ l k (by omega),fR,if_neg ‹¬l[k]!.op = 9›,if_neg hq,n1 ‹¬l[k]!.op = 9› hq]
   refine ⟨by omega,?_,by simp [bI]; omega,by omega⟩
   have e1 : xs.length = pts.length + cY (l.take k) := by omega
   rw [← List.append_assoc pts,← hxs,← e1,hm1]
  ·dsimp only;omega
 ·refine aC rfl ?_
  have e2 : l.take k = l := List.take_of_length_le (by omega)
  rw [e2] at hxs hm2
  refine aQ () trivial ?_ ⟨sE ?_,trivial⟩
  ·simp only [aN]; rw [hm2]
  ·rw [hxs]
theorem FW (l:List AL.Stmt) (pts:List Pnt) (m:Nat) (hs:aJ l ≤ 1048576) (hm:m = pts.length) (hb:m + cY l ≤ 13000000):MC Tryz.prog 74 [.own 0 0 m 5,sl aP l] [(0,some (aA bZ pts))] 1 (fun _:Unit => True) (fun _ => .own 1 0 (m + cY l) 5) (fun _ => [(1,some (aA bZ (pts ++ eY pts.length l)))]):=by
 have h : ∀ (mm : Nat), mm ≤ 1048576 → ∀ l pts m, aJ l ≤ mm → m = pts.length → m + cY l ≤ 13000000 → MC Tryz.prog 74 [.own 0 0 m 5, sl aP l] [(0, some (aA bZ pts))] 1 (fun _ : Unit => True) (fun _ => .own 1 0 (m + cY l) 5) (fun _ => [(1, some (aA bZ (pts ++ eY pts.length l)))]) := by
  intro mm
  induction mm using Nat.strongRecOn with
  | ind mm ih =>
   intro h0 l pts m h1 h2 h3
   exact Ea mm h0 (fun l' pts' m' g1 g2 g3 => ih _ g1 (by omega) l' pts' m' (Nat.le_refl _) g2 g3) l pts m h1 h2 h3
 exact h _ hs l pts m (Nat.le_refl _) hm hb
theorem kP (p:Prg) (hs:aJ p.body ≤ 1048576):PC Tryz.prog 27 [cJ p] (fun r => r = sl bZ (bJ p)):=by
 have hn := iV p.body
 have e0 : ([] : List AV) = aA bZ [] := rfl
 refine aD Tryz.func27 Tryz.ntmps27 ?_
 repeat' (first|(apply aF;(apply tW;rfl;rfl;(exact By rfl);(apply FW <;> (first|assumption|omega|(simp only [kH] <;> omega)));rfl;rfl))|refine aE ?_|fail)
 (refine bD (Le.frzD (d := 2) (i := 4) rfl rfl) ?_; refine aC rfl ?_)
 refine ⟨?_,(by (exact cR _ _))⟩
 simp only [aN,sl,bJ,List.length_append,List.length_cons,List.length_nil,bI,Nat.zero_add,List.nil_append]
theorem zN (ts:List Int) (bd:List AL.Stmt) (pts:List Pnt) (v:Int) (h:0 ≤ v ∧ v < ts.length):PC Tryz.prog 201 [aG ts bd pts,iv v] (fun r => r = bv (tI ts[v.toNat]!)):=by
 refine aD Tryz.func201 Tryz.ntmps201 ?_
 repeat' (first|refine aE ?_|(refine cS ?_ ?_ <;> intro hg hq <;> try (exfalso;omega))|refine eS ?_|fail)
 all_goals (refine ⟨?_,rfl⟩; simp only [aN,AV.v.injEq,Value.bool.injEq,Value.int.injEq,true_and])
 all_goals grind [tI]
theorem IG (ts:List Int) (bd:List AL.Stmt) (pts:List Pnt) (x:Pnt) (v:Int) (h:0 ≤ v ∧ v < ts.length):PC Tryz.prog 188 [aG ts bd pts,dV x,iv v] (fun r => r = iv (aV ts x v)):=by
 refine aD Tryz.func188 Tryz.ntmps188 ?_
 repeat' (first|(apply aF;(apply aB (k := 201);rfl;(apply zN <;> (assumption));exact Pur.pf;rfl))|refine aE ?_|(refine aL ?_ ?_ <;> intro hc hq <;> try (exfalso;omega))|(refine cS ?_ ?_ <;> intro hg hq <;> try (exfalso;omega))|refine eS ?_|fail)
 all_goals (refine ⟨?_,rfl⟩; simp only [aN,AV.v.injEq,Value.bool.injEq,Value.int.injEq,true_and])
 all_goals grind [tI,aV]
def DU (xs : List Int) (v : Int) : Int := match xs.findIdx? (fun t => decide (t = v)) with | some i => i | none => -1
theorem EJ (xs:List Int) (v:Int) (hl:xs.length ≤ 1048576):PC Tryz.prog 99 [sl cI xs,iv v] (fun r => r = iv (DU xs v)):=by
 refine aD Tryz.func99 Tryz.ntmps99 ?_
 repeat' (first|refine aE ?_|fail)
 refine aK (σ := Nat) [0,1,7] [] (fun k => [(8,iv (k : Int))]) (fun k => []) (fun k => k ≤ xs.length ∧ ∀ i,i < k → xs[i]! ≠ v) (fun k => xs.length - k) (0) ⟨by omega,by omega⟩ ?_
 intro k ⟨hk,hall⟩
 repeat' (first|refine aE ?_|(refine aL ?_ ?_ <;> intro hc hq <;> try (exfalso;omega))|refine eS ?_|fail)
 ·(refine ⟨?_, rfl⟩; simp only [aN, AV.v.injEq, Value.bool.injEq, Value.int.injEq, true_and])
  have hlt : k < xs.length := by omega
  have : xs.findIdx? (fun t => decide (t = v)) = some k := by
   rw [List.findIdx?_eq_some_iff_getElem]
   refine ⟨hlt,?_,fun j hj => ?_⟩
   ·rw [← aW xs k hlt]; grind
   ·have := hall j hj;rw [aW xs j (by omega)] at this;simpa using this
  simp only [DU,this]
 ·(refine c9 (k + 1) (Le.renA []) ?_ ?_)
  ·grind
  ·omega
 ·(refine ⟨?_, rfl⟩; simp only [aN, AV.v.injEq, Value.bool.injEq, Value.int.injEq, true_and])
  have : xs.findIdx? (fun t => decide (t = v)) = none := by
   rw [List.findIdx?_eq_none_iff]
   intro x hx
   obtain ⟨i,hi,rfl⟩ := List.getElem_of_mem hx
   have := hall i (by omega);rw [aW xs i hi] at this;simpa using this
  simp only [DU,this]
theorem Fa (xs:List Int) (v:Int):decide (0 ≤ DU xs v) = decide (v ∈ xs):=by
 unfold DU
 split
 ·rename_i i h
  obtain ⟨h1,h2,_⟩ := List.findIdx?_eq_some_iff_getElem.1 h
  simp only [decide_eq_true_eq] at h2
  have : v ∈ xs := by rw [← h2]; exact List.getElem_mem h1
  simp [this]
 ·rename_i h
  rw [List.findIdx?_eq_none_iff] at h
  have : v ∉ xs := fun hm => by have := h v hm;simp at this
  simp [this]
theorem yJ (xs:List Int) (v:Int) (hl:xs.length ≤ 1048576):PC Tryz.prog 57 [sl cI xs,iv v] (fun r => r = bv (decide (v ∈ xs))):=by
 refine aD Tryz.func57 Tryz.ntmps57 ?_
 repeat' (first|(apply aF;(apply aB (k := 99);rfl;(apply EJ <;> (assumption));exact Pur.pf;rfl))|refine aE ?_|refine eS ?_|fail)
 (refine ⟨?_,rfl⟩; simp only [aN,AV.v.injEq,Value.bool.injEq,Value.int.injEq,true_and])
 exact Fa xs v
theorem Fp (ts:List Int) (bd:List AL.Stmt) (pts:List Pnt) (x:Pnt) (us:List Int) (h:ts.length ≤ 6) (hu:us.length ≤ 1000):PC Tryz.prog 157 [aG ts bd pts,dV x,sl cI us] (fun r => r = iv (wS ts x us:Nat)):=by
 refine aD Tryz.func157 Tryz.ntmps157 ?_
 repeat' (first|refine aE ?_|fail)
 refine aK (σ := Nat × Nat) [0,2,4,14] [0] (fun k => [(15,iv (k.1 : Int)),(7,iv (k.2 : Int))]) (fun k => []) (fun k => k.1 ≤ ts.length ∧ k.2 = dT (fun v => decide (aV ts x v ∈ us)) k.1) (fun k => ts.length - k.1) (0,0) ⟨by omega,rfl⟩ ?_
 rintro ⟨k,A⟩ ⟨hk,hA⟩
 dsimp only at hk hA ⊢
 have hsm : Sm A := hA ▸ c8 (by omega)
 repeat' (first|(apply aF;first|(apply zS;rfl;rfl;infer_instance;omega;rfl;(case' kk => intro hsm))|(first|(apply aB (k := 57);rfl;(apply yJ <;> (omega));exact Pur.pf;rfl)|(apply aB (k := 188);rfl;(apply IG <;> (omega));exact Pur.pf;rfl)))|refine aE ?_|(refine aL ?_ ?_ <;> intro hc hq <;> try (exfalso;omega))|refine eS ?_|fail)
 ·(refine c9 (k + 1, _) (Le.renA [(0, 0)]) ?_ ?_)
  ·dsimp only
   rw [hA]
   exact ⟨by omega,vZ _ _ (by simpa using hq)⟩
  ·dsimp only;omega
 ·(refine c9 (k + 1, _) (Le.renA [(0, 0)]) ?_ ?_)
  ·dsimp only
   rw [hA]
   exact ⟨by omega,uE _ _ (by simpa using hq)⟩
  ·dsimp only;omega
 ·(refine ⟨?_, rfl⟩; simp only [aN, AV.v.injEq, Value.bool.injEq, Value.int.injEq, true_and])
  rw [hA,show k = ts.length by omega]; rfl
theorem gU (ts:List Int) (bd:List AL.Stmt) (pts:List Pnt) (x:Pnt) (h:ts.length ≤ 6):PC Tryz.prog 116 [aG ts bd pts,dV x] (fun r => r = iv (wS ts x [1,2,3]:Nat)):=by
 refine aD Tryz.func116 Tryz.ntmps116 ?_
 repeat' (first|(apply aF;first|(apply aM (t := _);rfl;rfl;rfl;(exact (rfl:_=some [_,_,_]));rfl;rfl)|(apply aB (k := 157);rfl;(apply Fp (us := [1,2,3]) <;> (first|assumption|decide));exact Pur.pf;rfl))|refine aE ?_|refine eS ?_|fail)
 (refine ⟨?_,rfl⟩; simp only [aN,AV.v.injEq,Value.bool.injEq,Value.int.injEq,true_and])
theorem gR (A:Nat) (hA:Sm A):PC Tryz.prog 100 [iv (A:Int)] (fun r => r = sl cI (dF A)):=by
 refine aD Tryz.func100 Tryz.ntmps100 ?_
 repeat' (first|refine aE ?_|fail)
 refine AW.le ?_ (Le.nilOwn (d := 3) 1 rfl (by decide))
 refine aK (σ := Nat × List Int × Nat) [0] [] (fun k => [(4,iv (k.1 : Int)),(3,.own 0 0 k.2.2 1)]) (fun k => [(0,some (aA cI k.2.1))]) (fun k => k.1 ≤ 62 ∧ k.2.1 = ((List.range k.1).filter (A.testBit ·)).map (fun v : Nat => (v : Int)) ∧ k.2.2 = k.2.1.length ∧ k.2.2 ≤ k.1) (fun k => 62 - k.1) (0,[],0) ⟨by omega,rfl,rfl,Nat.le_refl _⟩ ?_
 rintro ⟨k,u,m⟩ ⟨hk,hu,hm,hmk⟩
 dsimp only at hk hu hm hmk ⊢
 repeat' (first|(apply aF;(apply aM (t := _);rfl;rfl;rfl;exact (rfl:_=some [_]);rfl;rfl))|refine aE ?_|(refine aL ?_ ?_ <;> intro hc hq <;> try (exfalso;omega))|fail)
 ·have hlt := zB hA (show 0 < ((A >>> k : Nat) : Int) by assumption)
  (refine c9 (k + 1,_,_) (Le.renA [(0,2)]) ?_ ?_)
  ·dsimp only
   exact ⟨by omega,BF hq hu,by simp;omega,by omega⟩
  ·dsimp only;omega
 ·have hlt := zB hA (show 0 < ((A >>> k : Nat) : Int) by assumption)
  (refine c9 (k + 1,u,m) (Le.renA [(0,0)]) ?_ ?_)
  ·dsimp only
   exact ⟨by omega,A2 hq hu,hm,by omega⟩
  ·dsimp only;omega
 ·(refine bD (Le.frzD (d := 2) (i := 0) rfl rfl) ?_; refine aC rfl ?_)
  refine ⟨?_,(by (exact cR _ _))⟩
  simp only [aN,sl]
  rw [A7 (k := k) (fun v hv => DS hq v hv) (by omega) hA,← hu,← hm]
theorem qF (p:Prg) (hl:p.types.length ≤ 1048576) (hs:aJ p.body ≤ 1048576):PC Tryz.prog 66 [cJ p,.v (.slice none 0 0)] (fun r => r = if cL p = true then .tup [aG p.types p.body (bJ p),bv true] else .tup [.v (.pointer none),bv false]):=by
 have hpl := oA p
 have hnl := iV p.body
 refine aD Tryz.func66 Tryz.ntmps66 ?_
 repeat' (first|(apply aF;(first|(apply aB (k := 45);rfl;(apply pD <;> (first|assumption|omega));exact Pur.pf;rfl)|(apply aB (k := 109);rfl;(apply CU <;> (assumption));exact Pur.pf;rfl)))|refine aE ?_|(refine aL ?_ ?_ <;> intro hc hq <;> try (exfalso;omega))|refine cC ?_|fail)
 ·refine aC rfl ⟨?_, (by (rfl))⟩
  rw [if_neg (by simp [hq])]; rfl
 ·refine aK (σ := Unit) [6, 17, 18] [1] (fun _u => [(19, iv 0)]) (fun _u => []) (fun _u => True) (fun _u => 0) () trivial ?_
  intro _ _
  repeat' (first|refine aE ?_|fail)
  refine bD (Le.frzP (d := 4) (i := 1) rfl rfl) ?_
  refine aC rfl ⟨?_,(by show (AV.tup [aG p.types p.body (bJ p),bv true]).pur = true;exact PurV.pf)⟩
  rw [if_pos hq]; rfl
def st (op x y n : Int) : AL.Stmt := .mk op x y n [] []
theorem mS (xs:List Bool) (hl:xs.length ≤ 1048576):PC Tryz.prog 31 [sl cB xs] (fun r => r = sl cI (D5 xs xs.length)):=by
 refine aD Tryz.func31 Tryz.ntmps31 ?_
 repeat' (first|refine aE ?_|fail)
 refine aK (σ := Nat × List Int × Nat) [0] [] (fun k => [(4,iv (k.1 : Int)),(3,.own 0 0 k.2.2 1)]) (fun k => [(0,some (aA cI k.2.1))]) (fun k => k.1 ≤ xs.length ∧ k.2.1 = D5 xs k.1 ∧ k.2.2 = k.2.1.length ∧ k.2.2 ≤ k.1) (fun k => xs.length - k.1) (0,[],0) ⟨by omega,rfl,rfl,Nat.le_refl _⟩ ?_
 rintro ⟨k,u,m⟩ ⟨hk,hu,hm,hmk⟩
 dsimp only at hk hu hm hmk ⊢
 repeat' (first|(apply aF;(apply aM (t := _);rfl;rfl;rfl;exact (rfl:_=some [_]);rfl;rfl))|refine aE ?_|(refine aL ?_ ?_ <;> intro hc hq <;> try (exfalso;omega))|fail)
 ·(refine c9 (k + 1, u ++ [(k : Int)], m + 1) (Le.renA [(0, 2)]) ?_ ?_)
  ·exact ⟨by dsimp only;omega,by dsimp only;rw [hu]; exact (Fq (by assumption)).symm,by simp;omega,by dsimp only;omega⟩
  ·dsimp only;omega
 ·(refine c9 (k + 1, u, m) (Le.renA [(0, 0)]) ?_ ?_)
  ·exact ⟨by dsimp only;omega,by dsimp only;rw [hu]; exact (CO (by assumption)).symm,hm,by dsimp only;omega⟩
  ·dsimp only;omega
 ·(refine bD (Le.frzD (d := 2) (i := 0) rfl rfl) ?_; refine aC rfl ?_)
  refine ⟨?_,(by (exact cR _ _))⟩
  simp only [aN,sl]
  rw [hm,hu,show k = xs.length by omega]
theorem pI {stk:List Tg}{id:Int}(h:0 ≤ bH stk id):∀ k < (bH stk id).toNat,stk[k]!.id ≠ id:=by
 unfold bH at h ⊢
 split
 ·rename_i k hk
  obtain ⟨h1,h2,h3⟩ := List.findIdx?_eq_some_iff_getElem.1 hk
  rw [Int.toNat_natCast]
  intro j hj he
  have := h3 j hj
  rw [aW _ _ (by omega)] at he
  simp [he] at this
 ·rename_i hk;rw [hk] at h;dsimp only at h;omega
theorem sQ {stk:List Tg}{id:Int}{i:Nat}(hi:i < stk.length) (h:stk[i]!.id = id) (hn:∀ k < i,stk[k]!.id ≠ id):bH stk id = (i:Int):=by
 have hb := cZ stk id
 by_cases hneg : bH stk id < 0
 ·have := j5.1 hneg stk[i]! (by rw [aW _ _ hi]; exact List.getElem_mem hi)
  exact absurd h this
 ·have ha := zJ (stk := stk) (id := id) (by omega)
  have hf := pI (stk := stk) (id := id) (by omega)
  rcases Nat.lt_trichotomy (bH stk id).toNat i with h1|h1|h1
  ·exact absurd ha (hn _ h1)
  ·omega
  ·exact absurd h (hf _ h1)
theorem z1 (stk:List Tg) (id:Int) (hl:stk.length ≤ 1048576):PC Tryz.prog 225 [sl bT stk,iv id] (fun r => r = iv (bH stk id)):=by
 refine aD Tryz.func225 Tryz.ntmps225 ?_
 repeat' (first|refine aE ?_|fail)
 refine aK (σ := Nat) [0,1] [] (fun i => [(5,iv (i : Int))]) (fun i => []) (fun i => i ≤ stk.length ∧ (∀ k < i,stk[k]!.id ≠ id)) (fun i => stk.length - i) (0) ⟨Nat.zero_le _,fun k hk => absurd hk (by omega)⟩ ?_
 rintro i ⟨hi,hn⟩
 try dsimp only at hi hn
 repeat' (first|refine aE ?_|(refine aL ?_ ?_ <;> intro hc hq <;> try (exfalso;omega))|fail)
 ·refine aC rfl ⟨?_, rfl⟩
  simp only [aN]; rw [sQ (i := i) (by omega) (by assumption) hn]
 ·(refine c9 (i + 1) (Le.renA []) ?_ ?_)
  ·refine ⟨by omega, fun k hk => ?_⟩
   rcases Nat.lt_or_ge k i with h|h
   ·exact hn k h
   ·rw [show k = i by omega]; assumption
  ·show stk.length - (i + 1) < stk.length - i;omega
 ·refine aC rfl ⟨?_, rfl⟩
  have := j5 (stk := stk) (id := id)
  have hb := cZ stk id
  have : bH stk id < 0 := this.2 (fun t ht => by obtain ⟨k,hk,rfl⟩ := List.getElem_of_mem ht;have := hn k (by omega);rwa [aW _ _ hk] at this)
  simp only [aN]; rw [show bH stk id = -1 by omega]
theorem lU (c:Cl):OkC c ↔ (0 ≤ c.val ∧ c.val ≤ 9) ∧ (1 ≤ c.next ∧ c.next ≤ 1000) ∧ (1 ≤ c.stk.length ∧ c.stk.length ≤ 200) ∧ c.stk[0]!.uq = true ∧ (∀ k < c.stk.length,0 ≤ c.stk[k]!.id ∧ c.stk[k]!.id < c.next ∧ bH c.stk c.stk[k]!.id = (k:Int)):=by
 constructor
 ·intro h
  refine ⟨h.v,h.n,h.l,h.u,fun k hk => ?_⟩
  have h1 := h.i c.stk[k]! (by rw [aW _ _ hk]; exact List.getElem_mem hk)
  refine ⟨h1.1,h1.2,sQ hk rfl (fun j hj he => ?_)⟩
  have hd := List.nodup_iff_pairwise_ne.1 h.d |> List.pairwise_iff_getElem.1
  have := hd j k (by rw [List.length_map]; omega) (by rw [List.length_map]; omega) hj
  simp only [List.getElem_map] at this
  rw [aW _ _ (by omega),aW _ _ hk] at he
  exact this he
 ·rintro ⟨h1, h2, h3, h4, h5⟩
  refine ⟨h1,h2,h3,h4,fun t ht => ?_,?_⟩
  ·obtain ⟨k, hk, rfl⟩ := List.getElem_of_mem ht
   have := h5 k hk;rw [aW _ _ hk] at this
   exact ⟨this.1,this.2.1⟩
  ·rw [List.nodup_iff_pairwise_ne, List.pairwise_iff_getElem]
   intro i j hi hj hij he
   rw [List.length_map] at hi hj
   simp only [List.getElem_map] at he
   have a := (h5 i hi).2.2
   have b := (h5 j hj).2.2
   rw [aW _ _ hi] at a;rw [aW _ _ hj,← he,a] at b
   omega
instance (c : Cl) : Decidable (OkC c) := decidable_of_iff _ (lU c).symm
theorem b9 (m:List Cl):OkM m ↔ m.length ≤ 200 ∧ ∀ k < m.length,OkC m[k]!:=by
 constructor
 ·exact fun h => ⟨h.l,fun k hk => h.c _ (by rw [aW _ _ hk]; exact List.getElem_mem hk)⟩
 ·exact fun h => ⟨h.1,fun c hc => by obtain ⟨k,hk,rfl⟩ := List.getElem_of_mem hc;have := h.2 k hk;rwa [aW _ _ hk] at this⟩
instance (m : List Cl) : Decidable (OkM m) := decidable_of_iff _ (b9 m).symm
theorem BO (c:Cl):PC Tryz.prog 223 [Jt c] (fun r => r = bv (decide (OkC c))):=by
 refine aD Tryz.func223 Tryz.ntmps223 ?_
 repeat' (first|refine aE ?_|(refine aL ?_ ?_ <;> intro hc hq <;> try (exfalso;omega))|(refine cS ?_ ?_ <;> intro hg hq <;> try (exfalso;omega))|fail)
 all_goals try (refine aC rfl ⟨?_, rfl⟩; simp only [aN]; rw [show decide (OkC c) = false from decide_eq_false (fun h => by
  obtain ⟨h1,h2,h3,h4,h5⟩ := (lU c).1 h
  first|omega|exact absurd (by assumption : c.stk[Int.toNat 0]!.uq = false) (by rw [show Int.toNat 0 = 0 from rfl,h4]; decide))]; done)
 have hu : c.stk[0]!.uq = true := by assumption
 refine aK (σ := Nat) [1] [0] (fun i => [(3,iv (i : Int))]) (fun i => []) (fun i => i ≤ c.stk.length ∧ (∀ k < i,0 ≤ c.stk[k]!.id ∧ c.stk[k]!.id < c.next ∧ bH c.stk c.stk[k]!.id = (k : Int))) (fun i => c.stk.length - i) (0) ⟨Nat.zero_le _,fun k hk => absurd hk (by omega)⟩ ?_
 rintro i ⟨hi,hn⟩
 try dsimp only at hi hn
 repeat' (first|(apply aF;(apply aB (k := 225);rfl;exact z1 c.stk c.stk[i]!.id (by omega);exact Pur.pf;rfl))|refine aE ?_|(refine aL ?_ ?_ <;> intro hc hq <;> try (exfalso;omega))|(refine cS ?_ ?_ <;> intro hg hq <;> try (exfalso;omega))|refine cC ?_|fail)
 all_goals try (refine aC rfl ⟨?_, rfl⟩; simp only [aN]; rw [show decide (OkC c) = false from decide_eq_false (fun h => by
  obtain ⟨h1,h2,h3,h4,h5⟩ := (lU c).1 h
  exact absurd (h5 i (by omega)) (by omega))]; done)
 ·(refine c9 (i + 1) (Le.renA [(0, 0)]) ?_ ?_)
  ·refine ⟨by omega, fun k hk => ?_⟩
   rcases Nat.lt_or_ge k i with h|h
   ·exact hn k h
   ·rw [show k = i by omega]; exact ⟨by assumption,by assumption,by assumption⟩
  ·show c.stk.length - (i + 1) < c.stk.length - i;omega
 ·refine aC rfl ⟨?_, rfl⟩
  simp only [aN]
  rw [show decide (OkC c) = true from decide_eq_true ((lU c).2 ⟨by omega,by omega,by omega,hu,fun k hk => hn k (by omega)⟩)]
theorem kM (m:List Cl) (hl:m.length ≤ 1048576):PC Tryz.prog 212 [sl a8 m] (fun r => r = bv (decide (OkM m))):=by
 refine aD Tryz.func212 Tryz.ntmps212 ?_
 repeat' (first|refine aE ?_|fail)
 refine aK (σ := Nat) [0] [] (fun i => [(3,iv (i : Int))]) (fun i => []) (fun i => i ≤ m.length ∧ i ≤ 201 ∧ (∀ k < i,OkC m[k]!)) (fun i => m.length - i) (0) ⟨Nat.zero_le _,by omega,fun k hk => absurd hk (by omega)⟩ ?_
 rintro i ⟨hi,hi2,hn⟩
 try dsimp only at hi hi2 hn
 repeat' (first|(apply aF;(apply aB (k := 223);rfl;exact BO m[i]!;exact Pur.pf;rfl))|refine aE ?_|(refine aL ?_ ?_ <;> intro hc hq <;> try (exfalso;omega))|(refine cS ?_ ?_ <;> intro hg hq <;> try (exfalso;omega))|fail)
 ·refine aC rfl ⟨?_, rfl⟩
  simp only [aN]; rw [show decide (OkM m) = false from decide_eq_false (fun h => by
   have h1 := ((b9 m).1 h).2 i (by omega)
   have h2 : ¬ OkC m[i]! := by assumption
   exact h2 h1)]
 ·(refine c9 (i + 1) (Le.renA []) ?_ ?_)
  ·refine ⟨by omega, by omega, fun k hk => ?_⟩
   rcases Nat.lt_or_ge k i with h|h
   ·exact hn k h
   ·rw [show k = i by omega]; assumption
  ·show m.length - (i + 1) < m.length - i;omega
 ·refine aC rfl ⟨?_, rfl⟩
  simp only [aN]
  rw [show decide ((m.length : Int) ≤ 200) = false from decide_eq_false (by omega),show decide (OkM m) = false from decide_eq_false (fun h => by have := h.l;omega)]
 ·refine aC rfl ⟨?_, rfl⟩
  simp only [aN]
  rw [show decide ((m.length : Int) ≤ 200) = decide (OkM m) from decide_eq_decide.2 ⟨fun h => (b9 m).2 ⟨by omega,fun k hk => hn k (by omega)⟩,fun h => by have := h.l;omega⟩]
theorem hZ (k:Int):PC Tryz.prog 190 [iv k] (fun r => r = iv (if k = 1 then 3 else if k = 0 then 0 else 4)):=by
 refine aD Tryz.func190 Tryz.ntmps190 ?_
 repeat' (first|refine aE ?_|(refine aL ?_ ?_ <;> intro hc hq <;> try (exfalso;omega))|refine eS ?_|fail)
 all_goals (refine ⟨?_,rfl⟩; simp only [aN,AV.v.injEq,Value.bool.injEq,Value.int.injEq,true_and])
 all_goals grind
theorem nH (k:Int):PC Tryz.prog 203 [iv k] (fun r => r = iv (c6 k)):=by
 refine aD Tryz.func203 Tryz.ntmps203 ?_
 repeat' (first|refine aE ?_|(refine aL ?_ ?_ <;> intro hc hq <;> try (exfalso;omega))|refine eS ?_|fail)
 all_goals (refine ⟨?_,rfl⟩; simp only [aN,AV.v.injEq,Value.bool.injEq,Value.int.injEq,true_and])
 all_goals grind [c6]
theorem n7 {xs:List Tg}{m:Nat}{a:Int}{b:Bool}(hm:m = xs.length):((aA bT xs).drop 0).take (m * 2) ++ [iv a,bv b] = aA bT (xs ++ [⟨a,b⟩]) := fZ hm rfl
theorem Dw {xs:List Cl}{m:Nat}{a c:Int}{b:Bool}{s:List Tg}(hm:m = xs.length):((aA a8 xs).drop 0).take (m * 4) ++ [iv a,bv b,iv c,sl bT s] = aA a8 (xs ++ [⟨a,b,c,s⟩]) := fZ hm rfl
theorem gQ {α:Type}[Inhabited α] (l:List α){k i:Nat}(h:k ≤ i) (hi:i < l.length):(l.drop k).take (i + 1 - k) = (l.drop k).take (i - k) ++ [l[i]!]:=by
 have hl : i - k < (l.drop k).length := by rw [List.length_drop]; omega
 have h1 := cO (l.drop k) (i - k) hl
 rw [show i + 1 - k = i - k + 1 by omega,h1]
 congr 2
 rw [aW (l.drop k) (i - k) hl,List.getElem_drop,aW l i hi]
 congr 1;omega
theorem mI {α}{p:α → Bool}{a:α}(h:p a = true):[a].filter p = [a] := by simp [h]
theorem j9 {α}{p:α → Bool}{a:α}(h:p a = false):[a].filter p = [] := by simp [h]
theorem CQ (stk:List Tg) (k:Nat) (hk:k < stk.length) (hl:stk.length ≤ 1048576):PC Tryz.prog 217 [sl bT stk,iv (k:Int)] (fun r => r = sl bT (dJ stk k false)):=by
 have e1 : List.take (((k : Int) + 1).toNat - 0) (List.drop 0 stk) = stk.take (k + 1) := by rw [List.drop_zero]; congr 1
 have e2 : (stk.take (k + 1)).length = k + 1 := by rw [List.length_take]; omega
 refine aD Tryz.func217 Tryz.ntmps217 ?_
 repeat' (first|(apply aF;(with_reducible apply a6 (d := 12)))|refine aE ?_|fail)
 refine b7 ?_
 rw [e1]
 repeat' (first|refine aE ?_|fail)
 refine aK (σ := Nat × List Tg × Nat) [0] [] (fun s => [(6,iv (s.1 : Int)),(5,.own 1 0 s.2.2 2)]) (fun s => [(1,some (aA bT s.2.1))]) (fun s => k + 1 ≤ s.1 ∧ s.1 ≤ stk.length ∧ s.2.1 = stk.take (k + 1) ++ ((stk.drop (k + 1)).take (s.1 - (k + 1))).filter (fun t => !t.uq) ∧ s.2.2 = s.2.1.length ∧ s.2.2 ≤ s.1) (fun s => stk.length - s.1) (k + 1,stk.take (k + 1),0 + (stk.take (k + 1)).length) ⟨Nat.le_refl _,by dsimp only;omega,by simp,by dsimp only;omega,by dsimp only;omega⟩ ?_
 rintro ⟨i,xs,n⟩ ⟨hki,hi,hxs,hn,hni⟩
 dsimp only at hki hi hxs hn hni ⊢
 repeat' (first|(apply aF;first|(apply dH;rfl;rfl;rfl;rfl;rfl;(rw [aI]; omega);(rfl);omega;omega;(exact n7 (by (assumption)));rfl;rfl)|(apply aM (t := _);rfl;rfl;rfl;(exact (rfl:_=some [_,_]));rfl;rfl))|refine aE ?_|(refine aL ?_ ?_ <;> intro hc hq <;> try (exfalso;omega))|fail)
 ·(refine c9 (i + 1, _, _) (Le.renA [(1, 3)]) ?_ ?_)
  ·refine ⟨by dsimp only; omega, by dsimp only; omega, ?_, by dsimp only; rw [List.length_append, hn]; rfl, by dsimp only; omega⟩
   dsimp only
   rw [hxs,gQ stk hki (by omega),List.filter_append,List.append_assoc]
   congr 2
   have hu : stk[i]!.uq = false := by assumption
   rw [mI (by rw [hu]; rfl)]
  ·dsimp only;omega
 ·(refine c9 (i + 1, xs, n) (Le.renA [(1, 1)]) ?_ ?_)
  ·refine ⟨by dsimp only; omega, by dsimp only; omega, ?_, hn, by dsimp only; omega⟩
   dsimp only
   have hu : stk[i]!.uq = true := by assumption
   rw [hxs,gQ stk hki (by omega),List.filter_append,j9 (by rw [hu]; rfl),List.append_nil]
  ·dsimp only;omega
 ·(refine bD (Le.frzD (d := 4) (i := 1) rfl rfl) ?_; refine aC rfl ?_)
  refine ⟨?_,(by (exact cR _ _))⟩
  have hie : i = stk.length := by omega
  simp only [aN,sl]
  have hd : (stk.drop (k + 1)).take (stk.length - (k + 1)) = stk.drop (k + 1) := List.take_of_length_le (by rw [List.length_drop]; exact Nat.le_refl _)
  rw [hn,hxs,hie,hd]
  rfl
theorem D7 (m:List Cl) (hm:OkM m):PC Tryz.prog 213 [sl a8 m] (fun r => r = sl a8 m):=by
 have hml := hm.l
 refine aD Tryz.func213 Tryz.ntmps213 ?_
 repeat' (first|refine aE ?_|fail)
 refine aK (σ := Nat × List Cl) [0] [] (fun k => [(4,iv (k.1 : Int)),(3,.own 0 0 k.1 4)]) (fun k => [(0,some (aA a8 k.2))]) (fun k => k.1 ≤ m.length ∧ k.2 = m.take k.1) (fun k => m.length - k.1) (0,[]) ⟨by omega,rfl⟩ ?_
 rintro ⟨i,xs⟩ ⟨hi,hxs⟩
 dsimp only at hi hxs ⊢
 have hln : xs.length = i := by rw [hxs,List.length_take]; exact Nat.min_eq_left hi
 have hst : i < m.length → m[i]!.stk.length ≤ 200 := fun h => (((b9 m).1 hm).2 i h).l.2
 repeat' (first|(apply aF;(with_reducible apply a6 (d := 21)))|refine aE ?_|(refine aL ?_ ?_ <;> intro hc hq <;> try (exfalso;omega))|fail)
 ·refine b7 (fK ?_ (Le.frzD (d := 20) (i := 3) rfl rfl))
  rw [Nat.zero_add m[i]!.stk.length]
  repeat' (first|(apply aF;first|(apply dH;rfl;rfl;rfl;rfl;rfl;(rw [aI]; omega);(rfl);omega;omega;(exact Dw (by (omega)));rfl;rfl)|(apply aM (t := _);rfl;rfl;rfl;(exact (rfl:_=some [_,_,_,_]));rfl;rfl))|refine aE ?_|fail)
  (refine c9 (i + 1,_) (Le.renA [(0,5)]) ?_ ?_)
  ·exact ⟨by dsimp only;omega,by dsimp only;rw [hxs,cO m i (by omega)]⟩
  ·dsimp only;omega
 ·(refine bD (Le.frzD (d := 2) (i := 0) rfl rfl) ?_; refine aC rfl ?_)
  refine ⟨?_,(by (exact cR _ _))⟩
  have hie : i = m.length := by omega
  simp only [aN,sl]
  rw [hxs,hie,List.take_length]
theorem wW {m:List Cl}{x:Pt}{wr:Bool}(h:x.cell < 0 ∨ (m.length:Int) ≤ x.cell):aS m x wr = 4:=by
 unfold aS;rw [if_pos (by omega)]
theorem Dt {m:List Cl}{x:Pt}{wr:Bool}(h:0 ≤ x.cell) (h2:x.cell < m.length) (h3:m[x.cell.toNat]!.alive = false):aS m x wr = 1:=by
 unfold aS;rw [if_neg (by omega),if_pos h3]
theorem DY {m:List Cl}{x:Pt}{wr:Bool}(h:0 ≤ x.cell) (h2:x.cell < m.length) (h3:m[x.cell.toNat]!.alive = true) (h4:bH m[x.cell.toNat]!.stk x.tag < 0):aS m x wr = 2:=by
 unfold aS;rw [if_neg (by omega),if_neg (by rw [h3]; decide),if_pos h4]
theorem nL {m:List Cl}{x:Pt}(h:0 ≤ x.cell) (h2:x.cell < m.length) (h3:m[x.cell.toNat]!.alive = true) (h4:0 ≤ bH m[x.cell.toNat]!.stk x.tag):aS m x false = 0:=by
 unfold aS;rw [if_neg (by omega),if_neg (by rw [h3]; decide),if_neg (by omega),if_neg (by intro q;exact absurd q.1 (by decide))]
theorem sJ {m:List Cl}{x:Pt}:aS m x true = if aS m x false = 0 then (if m[x.cell.toNat]!.stk[(bH m[x.cell.toNat]!.stk x.tag).toNat]!.uq = false then 3 else 0) else aS m x false:=by
 unfold aS
 split
 ·rw [if_neg (by decide)]
 ·split
  ·rw [if_neg (by decide)]
  ·split
   ·rw [if_neg (by decide)]
   ·rw [if_neg (c := false = true ∧ _) (by intro q; exact absurd q.1 (by decide)), if_pos rfl]
    simp only [true_and]
theorem cU {m:List Cl}{x:Pt}{wr:Bool}(h:aS m x wr = 0):0 ≤ x.cell ∧ x.cell < m.length ∧ m[x.cell.toNat]!.alive = true ∧ 0 ≤ bH m[x.cell.toNat]!.stk x.tag ∧ (wr = true → m[x.cell.toNat]!.stk[(bH m[x.cell.toNat]!.stk x.tag).toNat]!.uq = true):=by
 unfold aS at h
 split at h
 ·omega
 ·split at h
  ·omega
  ·split at h
   ·omega
   ·split at h
    ·omega
    ·rename_i a b c d
     refine ⟨by omega,by omega,by simpa using b,by omega,fun hw => ?_⟩
     by_cases q : m[x.cell.toNat]!.stk[(bH m[x.cell.toNat]!.stk x.tag).toNat]!.uq = false
     ·exact absurd ⟨hw,q⟩ d
     ·simpa using q
theorem dM {m:List Cl}{x0:Operand}(ha0:ev (lk tsl) x0 = some (sl a8 m)) (hmc:MC Tryz.prog 213 [sl a8 m] [] 0 (fun _:Unit => True) (fun _ => .own 0 0 m.length 4) (fun _ => [(0,some (aA a8 m))])) (hM:Nat.ble (nidl + 1) cW = true) (hN:Nat.blt d N = true){md':Md}[hmd:MdA md (fH [x0] ++ []) (List.map Sum.inr (List.map Prod.fst ([(nidl,some (aA a8 m))]:List (Nat × Option (List AV)))) ++ [.inl d]) md'] (kk:RW Tryz.prog N all Q md' rest ⟨(d,.own nidl 0 m.length 4) :: tsl,gH hsl [(nidl,some (aA a8 m))],nidl + 1,z0⟩):RW Tryz.prog N all Q md (⟨some d,.call ⟨.value (.func 213),#[x0],tys⟩,ty,pos,af,none⟩ :: rest) ⟨tsl,hsl,nidl,z0⟩:=by
 exact aZ (l := [x0]) [] 1 [(nidl,some (aA a8 m))] hmc (avs := [sl a8 m]) (by simp only [evL,ha0]) rfl hM hN (md' := md') (hmd := hmd) kk
theorem eF (m:List Cl) (hm:OkM m):MC Tryz.prog 213 [sl a8 m] [] 0 (fun _:Unit => True) (fun _ => .own 0 0 m.length 4) (fun _ => [(0,some (aA a8 m))]):=by
 have hml := hm.l
 refine aT Tryz.func213 Tryz.ntmps213 ?_
 repeat' (first|refine aE ?_|fail)
 refine aK (σ := Nat × List Cl) [0] [] (fun k => [(4,iv (k.1 : Int)),(3,.own 0 0 k.1 4)]) (fun k => [(0,some (aA a8 k.2))]) (fun k => k.1 ≤ m.length ∧ k.2 = m.take k.1) (fun k => m.length - k.1) (0,[]) ⟨by omega,rfl⟩ ?_
 rintro ⟨i,xs⟩ ⟨hi,hxs⟩
 dsimp only at hi hxs ⊢
 have hln : xs.length = i := by rw [hxs,List.length_take]; exact Nat.min_eq_left hi
 have hst : i < m.length → m[i]!.stk.length ≤ 200 := fun h => (((b9 m).1 hm).2 i h).l.2
 repeat' (first|(apply aF;(with_reducible apply a6 (d := 21)))|refine aE ?_|(refine aL ?_ ?_ <;> intro hc hq <;> try (exfalso;omega))|fail)
 ·refine b7 (fK ?_ (Le.frzD (d := 20) (i := 3) rfl rfl))
  rw [Nat.zero_add m[i]!.stk.length]
  repeat' (first|(apply aF;first|(apply dH;rfl;rfl;rfl;rfl;rfl;(rw [aI]; omega);(rfl);omega;omega;(exact Dw (by (omega)));rfl;rfl)|(apply aM (t := _);rfl;rfl;rfl;(exact (rfl:_=some [_,_,_,_]));rfl;rfl))|refine aE ?_|fail)
  (refine c9 (i + 1,_) (Le.renA [(0,5)]) ?_ ?_)
  ·exact ⟨by dsimp only;omega,by dsimp only;rw [hxs,cO m i (by omega)]⟩
  ·dsimp only;omega
 ·have hie : i = m.length := by omega
  (refine aC rfl ?_; refine aQ () trivial ?_ ⟨sE ?_,trivial⟩)
  ·rw [hie]; rfl
  ·rw [hxs,hie,List.take_length]
theorem iE (m:List Cl) (hm:OkM m) (x:Pt):PC Tryz.prog 216 [sl a8 m,jR x] (fun r => r = .tup [iv (if aS m x false = 0 then bH m[x.cell.toNat]!.stk x.tag else 0),iv (aS m x false)]):=by
 have hml := hm.l
 have hcv := kM m (by omega)
 rw [decide_eq_true hm] at hcv
 have hst : 0 ≤ x.cell → x.cell < m.length → m[x.cell.toNat]!.stk.length ≤ 1048576 := fun h1 h2 => Nat.le_trans (((b9 m).1 hm).2 x.cell.toNat (by omega)).l.2 (by decide)
 refine aD Tryz.func216 Tryz.ntmps216 ?_
 repeat' (first|(apply aF;first|(apply aB (k := 212);rfl;exact hcv;exact Pur.pf;rfl)|(apply aB (k := 225);rfl;exact z1 m[x.cell.toNat]!.stk x.tag (hst (by assumption) (by assumption));exact Pur.pf;rfl))|refine aE ?_|(refine aL ?_ ?_ <;> intro hc hq <;> try (exfalso;omega))|(refine cS ?_ ?_ <;> intro hg hq <;> try (exfalso;omega))|refine cC ?_|fail)
 all_goals (refine aC rfl ⟨?_,rfl⟩; simp only [aN])
 ·rw [wW (by omega)]; rfl
 ·rw [Dt (by assumption) (by assumption) (by assumption)]; rfl
 ·rw [DY (by assumption) (by assumption) (by assumption) (by assumption)]; rfl
 ·rw [nL (by assumption) (by assumption) (by assumption) (by assumption)]; rfl
 ·rw [wW (by omega)]; rfl
theorem xU {xs:List Cl}{k:Nat}{s:List Tg}(hk:k < xs.length):eR (aA a8 xs) (0 + k * 4 + 3) [sl bT s] = aA a8 (xs.set k { xs[k]! with stk := s }) := dD hk (by simp) rfl
theorem HR {xs:List Cl}{k:Nat}{v:Int}(hk:k < xs.length):eR (aA a8 xs) (0 + k * 4 + 0) [iv v] = aA a8 (xs.set k { xs[k]! with val := v }) := dD hk (by simp) rfl
theorem GQ {xs:List Cl}{k:Nat}{b:Bool}(hk:k < xs.length):eR (aA a8 xs) (0 + k * 4 + 1) [.v (.bool b)] = aA a8 (xs.set k { xs[k]! with alive := b }) := dD hk (by simp) rfl
theorem dI {α:Type}{f:α → List AV}{xs:List α}{n:Nat}(h:n = xs.length):AV.imm n (aA f xs) = sl f xs := by subst h;rfl
theorem mY (m:List Cl) (hm:OkM m) (x:Pt):PC Tryz.prog 196 [sl a8 m,jR x] (fun r => r = .tup [sl a8 (bX m x false),iv (kJ m x),iv (aS m x false)]):=by
 have hml := hm.l
 have hst : 0 ≤ x.cell → x.cell < m.length → m[x.cell.toNat]!.stk.length ≤ 1048576 := fun h1 h2 => Nat.le_trans (((b9 m).1 hm).2 x.cell.toNat (by omega)).l.2 (by decide)
 by_cases hk : aS m x false = 0
 ·have hpl := iE m hm x
  rw [if_pos hk,hk] at hpl
  obtain ⟨h1,h2,h3,h4,_⟩ := cU hk
  have hbd := cZ m[x.cell.toNat]!.stk x.tag
  have hrd := CQ m[x.cell.toNat]!.stk (bH m[x.cell.toNat]!.stk x.tag).toNat (by omega) (hst h1 h2)
  rw [Int.toNat_of_nonneg h4] at hrd
  refine aD Tryz.func196 Tryz.ntmps196 ?_
  repeat' (first|(apply aF;first|(apply dM;rfl;exact eF m hm;rfl;rfl)|(apply aB (k := 216);rfl;exact hpl;exact Pur.pf;rfl)|(apply aB (k := 217);rfl;exact hrd;exact Pur.pf;rfl)|(apply bC;rfl;rfl;rfl;rfl;rfl;(rw [aI]; simp only [kH] <;> omega);(exact xU (by (omega)))))|refine aE ?_|refine cC ?_|fail)
  (refine bD (Le.frzD (d := 4) (i := 1) rfl rfl) ?_; refine aC rfl ?_)
  refine ⟨?_,by exact Pur.pf⟩
  simp only [aN]
  rw [dI (by rw [List.length_set]),hk]
  unfold bX kJ;rw [if_pos hk,if_pos hk]; rfl
 ·have hpl := iE m hm x
  rw [if_neg hk] at hpl
  refine aD Tryz.func196 Tryz.ntmps196 ?_
  repeat' (first|(apply aF;first|(apply dM;rfl;exact eF m hm;rfl;rfl)|(apply aB (k := 216);rfl;exact hpl;exact Pur.pf;rfl))|refine aE ?_|(refine aL ?_ ?_ <;> intro hc hq <;> try (exfalso;omega))|fail)
  (refine bD (Le.frzD (d := 4) (i := 1) rfl rfl) ?_; refine aC rfl ?_)
  refine ⟨?_,by exact Pur.pf⟩
  simp only [aN]
  unfold bX kJ;rw [if_neg hk,if_neg hk]
theorem Hv {cs:List AV}{i:Nat}{c:AV}:eR cs i [c] = cs.take i ++ c :: cs.drop (i + 1):=by
 have := E8 (cs := cs) (v := i) (c := c)
 rwa [Nat.zero_add,Nat.mul_one] at this
theorem Le.frzCl {ts:List (Nat × AV)}{hs:List (Nat × Option (List AV))}{n:Nat}{z0:Lo}{j q v m:Nat}{u:List Cl}{r:List Tg}(hj:aO hs j = some (eR (aA a8 u) (0 + v * 4 + 3) [.own q 0 m 2])) (hq:aO hs q = some (aA bT r)) (hm:m = r.length) (hv:v < u.length) (hjq:j ≠ q) :
  Le ⟨ts,hs,n,z0⟩ ⟨ts,(j,some (aA a8 (u.set v { u[v]! with stk := r }))) :: (q,none) :: hs,n,z0⟩ := by
 subst hm
 have hl : (aA a8 u).length = u.length * 4 := aI a8 u
 have e := xU (s := r) hv
 rw [Hv] at hj e
 have h := Le.frzC (ts := ts) (n := n) (z0 := z0) ((aA a8 u).take (0 + v * 4 + 3)) hj hq hjq
 rw [← e]; exact h
theorem jJ {m:List Cl}{x:Pt}{wr:Bool}:(bX m x wr).length = m.length:=by
 unfold bX;split
 ·rw [List.length_set]
 ·rfl
theorem fL {m:List Cl}{x:Pt}{x0 x1:Operand}(ha0:ev (lk tsl) x0 = some (sl a8 m)) (ha1:ev (lk tsl) x1 = some (jR x)) (hmc:MC Tryz.prog 211 [sl a8 m,jR x] [] 0 (fun _:Unit => True) (fun _ => .tup [.own 1 0 m.length 4,iv (aS m x true)]) (fun _ => [(1,some (aA a8 (bX m x true)))])) (hM:Nat.ble (nidl + 2) cW = true) (hN:Nat.blt d N = true){md':Md}[hmd:MdA md (fH [x0,x1] ++ []) (List.map Sum.inr (List.map Prod.fst ([((nidl + 1),some (aA a8 (bX m x true)))]:List (Nat × Option (List AV)))) ++ [.inl d]) md'] (kk:RW Tryz.prog N all Q md' rest ⟨(d,.tup [.own (nidl + 1) 0 m.length 4,iv (aS m x true)]) :: tsl,gH hsl [((nidl + 1),some (aA a8 (bX m x true)))],nidl + 2,z0⟩):RW Tryz.prog N all Q md (⟨some d,.call ⟨.value (.func 211),#[x0,x1],tys⟩,ty,pos,af,none⟩ :: rest) ⟨tsl,hsl,nidl,z0⟩:=by
 exact aZ (l := [x0,x1]) [] 2 [((nidl + 1),some (aA a8 (bX m x true)))] hmc (avs := [sl a8 m,jR x]) (by simp only [evL,ha0,ha1]) rfl hM hN (md' := md') (hmd := hmd) kk
theorem fW (m:List Cl) (x:Pt) (hm:OkM m):MC Tryz.prog 211 [sl a8 m,jR x] [] 0 (fun _:Unit => True) (fun _ => .tup [.own 1 0 m.length 4,iv (aS m x true)]) (fun _ => [(1,some (aA a8 (bX m x true)))]):=by
 have hml := hm.l
 have hst : 0 ≤ x.cell → x.cell < m.length → m[x.cell.toNat]!.stk.length ≤ 200 := fun h1 h2 => (((b9 m).1 hm).2 x.cell.toNat (by omega)).l.2
 have hpl := iE m hm x
 by_cases hk : aS m x false = 0
 ·rw [if_pos hk, hk] at hpl
  obtain ⟨h1,h2,h3,h4,_⟩ := cU hk
  have hbd := cZ m[x.cell.toNat]!.stk x.tag
  have hs2 := hst h1 h2
  obtain ⟨k,hkk⟩ := Int.eq_ofNat_of_zero_le h4
  rw [hkk] at hpl
  have hkn : k < m[x.cell.toNat]!.stk.length := by omega
  have hkt : (bH m[x.cell.toNat]!.stk x.tag).toNat = k := by omega
  have hwr := sJ (m := m) (x := x)
  rw [if_pos hk,hkt] at hwr
  have e1 : List.take (((k : Int) + 1).toNat - 0) (List.drop 0 m[x.cell.toNat]!.stk) = m[x.cell.toNat]!.stk.take (k + 1) := by rw [List.drop_zero]; congr 1
  have e2 : (m[x.cell.toNat]!.stk.take (k + 1)).length = k + 1 := by rw [List.length_take]; omega
  refine aT Tryz.func211 Tryz.ntmps211 ?_
  repeat' (first|(apply aF;first|(apply dM;rfl;exact eF m hm;rfl;rfl)|(apply aB (k := 216);rfl;exact hpl;exact Pur.pf;rfl)|(with_reducible apply a6 (d := 46)))|refine aE ?_|(refine aL ?_ ?_ <;> intro hc hq <;> try (exfalso;omega))|refine cC ?_|fail)
  ·have hu : m[x.cell.toNat]!.stk[k]!.uq = false := by assumption
   rw [if_pos hu] at hwr
   (refine aC rfl ?_; refine aQ () trivial ?_ ⟨sE ?_,trivial⟩)
   ·rw [hwr]; rfl
   ·unfold bX;rw [if_neg (by rw [hwr]; decide)]
  ·have hu : m[x.cell.toNat]!.stk[k]!.uq = true := by assumption
   rw [if_neg (by rw [hu]; decide)] at hwr
   refine b7 ?_
   rw [e1]
   repeat' (first|(apply aF;(with_reducible apply a6 (d := 49)))|refine aE ?_|fail)
   refine b7 (fK ?_ (Le.frzCl (j := 1) (q := 3) (v := x.cell.toNat) (u := m) (r := m[x.cell.toNat]!.stk.take (k + 1)) rfl rfl (Nat.zero_add _) (by omega) (by decide)))
   repeat' (first|refine aE ?_|fail)
   (refine aC rfl ?_; refine aQ () trivial ?_ ⟨sE ?_,trivial⟩)
   ·rw [hwr]; rfl
   ·unfold bX fM dJ;rw [if_pos hwr,hkt,if_pos rfl]
 ·rw [if_neg hk] at hpl
  have hk2 : aS m x true = aS m x false := by rw [sJ,if_neg hk]
  refine aT Tryz.func211 Tryz.ntmps211 ?_
  repeat' (first|(apply aF;first|(apply dM;rfl;exact eF m hm;rfl;rfl)|(apply aB (k := 216);rfl;exact hpl;exact Pur.pf;rfl))|refine aE ?_|(refine aL ?_ ?_ <;> intro hc hq <;> try (exfalso;omega))|fail)
  (refine aC rfl ?_; refine aQ () trivial ?_ ⟨sE ?_,trivial⟩)
  ·rw [hk2]; rfl
  ·unfold bX;rw [if_neg (by rw [hk2]; exact hk)]
theorem set_set {α:Type}{l:List α}{i:Nat}{a b:α}:(l.set i a).set i b = l.set i b := by simp
theorem iG {α:Type}[Inhabited α] {l:List α}{i:Nat}{a:α}(h:i < l.length):(l.set i a)[i]! = a := by rw [aW _ _ (by rw [List.length_set]; exact h),List.getElem_set_self]
theorem sF (m:List Cl) (hm:OkM m) (x:Pt) (v:Int):PC Tryz.prog 197 [sl a8 m,jR x,iv v] (fun r => r = .tup [sl a8 (k3 m x v),iv (lO m x v)]):=by
 have hml := hm.l
 have hlt := jJ (m := m) (x := x) (wr := true)
 have hin := cU (m := m) (x := x) (wr := true)
 by_cases hv : 0 ≤ v ∧ v ≤ 9
 ·have hwk : lO m x v = aS m x true := by unfold lO; rw [if_pos hv]
  by_cases hk : aS m x true = 0
  ·obtain ⟨h1, h2, _⟩ := hin hk
   refine aD Tryz.func197 Tryz.ntmps197 ?_
   repeat' (first|(apply aF;first|(apply fL;rfl;rfl;exact fW m x hm;rfl;rfl)|(apply bC;rfl;rfl;rfl;rfl;rfl;(rw [aI]; simp only [kH] <;> omega);(exact HR (by (omega)))))|refine aE ?_|(refine aL ?_ ?_ <;> intro hc hq <;> try (exfalso;omega))|(refine cS ?_ ?_ <;> intro hg hq <;> try (exfalso;omega))|fail)
   (refine bD (Le.frzD (d := 6) (i := 2) rfl rfl) ?_; refine aC rfl ?_)
   refine ⟨?_,by exact Pur.pf⟩
   simp only [aN]
   rw [dI (by rw [List.length_set,hlt]),hwk]
   unfold k3 bX;rw [if_pos hk,if_pos (by rw [hwk]; exact hk),iG (by omega),set_set]
  ·refine aD Tryz.func197 Tryz.ntmps197 ?_
   repeat' (first|(apply aF;(apply fL;rfl;rfl;exact fW m x hm;rfl;rfl))|refine aE ?_|(refine aL ?_ ?_ <;> intro hc hq <;> try (exfalso;omega))|(refine cS ?_ ?_ <;> intro hg hq <;> try (exfalso;omega))|fail)
   (refine bD (Le.frzD (d := 6) (i := 2) rfl rfl) ?_; refine aC rfl ?_)
   refine ⟨?_,by exact Pur.pf⟩
   simp only [aN]
   rw [dI (by rw [hlt]),hwk]
   unfold k3 bX;rw [if_neg hk,if_neg (by rw [hwk]; exact hk)]
 ·have hwk : lO m x v = 4 := by unfold lO; rw [if_neg hv]
  have e : k3 m x v = m := by unfold k3;rw [if_neg (by rw [hwk]; decide)]
  refine aD Tryz.func197 Tryz.ntmps197 ?_
  repeat' (first|(apply aF;(apply dM;rfl;exact eF m hm;rfl;rfl))|refine aE ?_|(refine aL ?_ ?_ <;> intro hc hq <;> try (exfalso;omega))|(refine cS ?_ ?_ <;> intro hg hq <;> try (exfalso;omega))|fail)
  all_goals (try (exfalso;omega))
  all_goals (
   (refine bD (Le.frzD (d := 6) (i := 1) rfl rfl) ?_; refine aC rfl ?_)
   refine ⟨?_,by exact Pur.pf⟩
   simp only [aN]
   rw [e,hwk])
theorem jF (m:List Cl) (hm:OkM m) (x:Pt):PC Tryz.prog 189 [sl a8 m,jR x] (fun r => r = .tup [sl a8 (eU m x),iv (aS m x true)]):=by
 have hml := hm.l
 have hlt := jJ (m := m) (x := x) (wr := true)
 have hin := cU (m := m) (x := x) (wr := true)
 by_cases hk : aS m x true = 0
 ·obtain ⟨h1, h2, _⟩ := hin hk
  refine aD Tryz.func189 Tryz.ntmps189 ?_
  repeat' (first|(apply aF;first|(apply fL;rfl;rfl;exact fW m x hm;rfl;rfl)|(apply bC;rfl;rfl;rfl;rfl;rfl;(rw [aI]; simp only [kH] <;> omega);(exact GQ (by (omega)))))|refine aE ?_|(refine aL ?_ ?_ <;> intro hc hq <;> try (exfalso;omega))|fail)
  (refine bD (Le.frzD (d := 4) (i := 2) rfl rfl) ?_; refine aC rfl ?_)
  refine ⟨?_,by exact Pur.pf⟩
  simp only [aN]
  rw [dI (by rw [List.length_set,hlt])]
  unfold eU bX;rw [if_pos hk,if_pos hk,iG (by omega),set_set]
 ·refine aD Tryz.func189 Tryz.ntmps189 ?_
  repeat' (first|(apply aF;(apply fL;rfl;rfl;exact fW m x hm;rfl;rfl))|refine aE ?_|(refine aL ?_ ?_ <;> intro hc hq <;> try (exfalso;omega))|fail)
  (refine bD (Le.frzD (d := 4) (i := 2) rfl rfl) ?_; refine aC rfl ?_)
  refine ⟨?_,by exact Pur.pf⟩
  simp only [aN]
  rw [dI (by rw [hlt])]
  unfold eU bX;rw [if_neg hk,if_neg hk]
theorem xS (m:List Cl) (hm:OkM m) (v:Int):PC Tryz.prog 193 [sl a8 m,iv v] (fun r => r = .tup (if 0 ≤ v ∧ v ≤ 9 ∧ m.length < 200 then [sl a8 (m ++ [kX v]),.agg [iv m.length,iv 0],bv true] else [sl a8 [],.agg [iv 0,iv 0],bv false])):=by
 have hml := hm.l
 have hcv := kM m (by omega)
 rw [decide_eq_true hm] at hcv
 refine aD Tryz.func193 Tryz.ntmps193 ?_
 repeat' (first|(apply aF;first|(apply dM;rfl;exact eF m hm;rfl;rfl)|(apply aB (k := 212);rfl;exact hcv;exact Pur.pf;rfl)|(apply aM (t := _);rfl;rfl;rfl;(first|exact (rfl:_=some [_,_])|exact (rfl:_=some [_,_,_,_])|rfl);rfl;rfl))|refine aE ?_|(refine aL ?_ ?_ <;> intro hc hq <;> try (exfalso;omega))|(refine cS ?_ ?_ <;> intro hg hq <;> try (exfalso;omega))|fail)
 all_goals try exact aC (l := [sl a8 [],.agg [iv 0,iv 0],bv false]) rfl ⟨by rw [if_neg (by omega)]; rfl,rfl⟩
 have e : ((aA a8 m).drop 0).take (m.length * 4) ++ [iv v,bv true,iv 1,.imm 1 [iv 0,bv true]] = aA a8 (m ++ [kX v]) := fZ rfl rfl
 have e2 : AV.imm (m.length + 1) (((aA a8 m).drop 0).take (m.length * 4) ++ [iv v, bv true, iv 1, .imm 1 [iv 0, bv true]]) = sl a8 (m ++ [kX v]) := by
  rw [e]; exact dI (by rw [List.length_append]; rfl)
 refine bD (Le.frzD (d := 4) (i := 4) rfl rfl) ?_
 refine aC (l := [AV.imm (m.length + 1) (((aA a8 m).drop 0).take (m.length * 4) ++ [iv v,bv true,iv 1,.imm 1 [iv 0,bv true]]),.agg [iv m.length,iv 0],bv true]) rfl ?_
 rw [e2,if_pos (by omega)]
 exact ⟨rfl,by exact Pur.pf⟩
def k5 (m : List Cl) (j : Nat) (r : List Tg) : Prop := r.length = 200 ∨ m[j]!.next = 1000
instance (m : List Cl) (j : Nat) (r : List Tg) : Decidable (k5 m j r) := by unfold k5;infer_instance
def gL (m b : List Cl) (j : Nat) (u : Bool) (r : List Tg) : List Cl := if k5 m j r then b else m.set j (psh { m[j]! with stk := r } u)
def gJ (m : List Cl) (j : Nat) (r : List Tg) : Pt := if k5 m j r then ⟨0,0⟩ else ⟨j,m[j]!.next⟩
def gK (m : List Cl) (j : Nat) (r : List Tg) : Int := if k5 m j r then 4 else 0
theorem rG {m b:List Cl}{j:Nat}{u:Bool}{r:List Tg}{n k:Nat}{x0 x1 x2 x3:Operand}{i0 i1:Nat}(ha0:ev (lk tsl) x0 = some (.own i0 0 n 4)) (ha1:ev (lk tsl) x1 = some (sl a8 b)) (ha2:ev (lk tsl) x2 = some (iv (j:Int))) (ha3:ev (lk tsl) x3 = some (bv u)) (hH0:aO hsl i0 = some (aA dK (cF m j (.own i1 0 k 2)))) (hH1:aO hsl i1 = some (aA bT r)) (hdd:Go.AL.distinct [i0,i1] = true) (hmc:MC Tryz.prog 224 [.own 0 0 n 4,sl a8 b,iv (j:Int),bv u] [(0,some (aA dK (cF m j (.own 1 0 k 2)))),(1,some (aA bT r))] 2 (fun _:Unit => True) (fun _ => .tup [sl a8 (gL m b j u r),jR (gJ m j r),iv (gK m j r)]) (fun _ => [])) (hM:Nat.ble (nidl + 0) cW = true) (hN:Nat.blt d N = true){md':Md}[hmd:MdA md (fH [x0,x1,x2,x3] ++ [.inr i0,.inr i1]) (List.map Sum.inr (List.map Prod.fst ([(i0,none),(i1,none)]:List (Nat × Option (List AV)))) ++ [.inl d]) md'] (kk:RW Tryz.prog N all Q md' rest ⟨(d,.tup [sl a8 (gL m b j u r),jR (gJ m j r),iv (gK m j r)]) :: tsl,gH hsl [(i0,none),(i1,none)],nidl + 0,z0⟩):RW Tryz.prog N all Q md (⟨some d,.call ⟨.value (.func 224),#[x0,x1,x2,x3],tys⟩,ty,pos,af,none⟩ :: rest) ⟨tsl,hsl,nidl,z0⟩:=by
 exact aZ (l := [x0,x1,x2,x3]) [i0,i1] 2 [(i0,none),(i1,none)] hmc (avs := [.own i0 0 n 4,sl a8 b,iv (j : Int),bv u]) (by simp only [evL,ha0,ha1,ha2,ha3]) hdd hM hN (md' := md') (hmd := hmd) kk
theorem vV (m b:List Cl) (j:Nat) (u:Bool) (r:List Tg) (n k:Nat) (hb:OkM b) (hn:n = m.length) (hk:k = r.length) (hj:j < m.length) (hnx:0 ≤ m[j]!.next ∧ m[j]!.next ≤ 1000) (hr:r.length ≤ 200) (hml:m.length ≤ 200):MC Tryz.prog 224 [.own 0 0 n 4,sl a8 b,iv (j:Int),bv u] [(0,some (aA dK (cF m j (.own 1 0 k 2)))),(1,some (aA bT r))] 2 (fun _:Unit => True) (fun _ => .tup [sl a8 (gL m b j u r),jR (gJ m j r),iv (gK m j r)]) (fun _ => []):=by
 have hol := cD (m := m) (j := j) (X := .own 1 0 k 2)
 have hog := fC (m := m) (j := j) (X := .own 1 0 k 2) hj
 have hol2 := cD (m := m) (j := j) (X := .own (2 + 1 + 1 + 1) 0 (r.length + 1) 2)
 subst hn hk
 refine aT Tryz.func224 Tryz.ntmps224 ?_
 repeat' (first|(apply aF;(with_reducible apply a6 (d := 11)))|refine aE ?_|fail)
 refine b7 ?_
 rw [hog]
 dsimp only
 repeat' (first|(apply aF;first|(apply aB (k := 213);rfl;exact D7 b hb;exact Pur.pf;rfl)|(apply dH;rfl;rfl;rfl;rfl;rfl;(rw [aI]; omega);(rfl);omega;omega;(exact n7 (by (omega)));rfl;rfl)|(apply bC;rfl;rfl;rfl;rfl;rfl;(case hl => (first|decide|(rw [aI]; simp only [kH] <;> omega)|(simp;done)));(first|exact oV (by (assumption))|exact rN (by (assumption))))|(apply aM (t := _);rfl;rfl;rfl;(exact (rfl:_=some [_,_]));rfl;rfl))|refine aE ?_|(refine aL ?_ ?_ <;> intro hc hq <;> try (exfalso;omega))|(refine cS ?_ ?_ <;> intro hg hq <;> try (exfalso;omega))|fail)
 ·have hf : k5 m j r := .inr (by assumption)
  refine aC (l := [sl a8 b,.agg [iv 0,iv 0],iv 4]) rfl ?_
  refine aQ () trivial ?_ trivial
  unfold gL gJ gK;rw [if_pos hf,if_pos hf,if_pos hf]; rfl
 ·have hf : ¬ k5 m j r := by unfold k5; omega
  have hm2 : (m.set j { m[j]! with next := m[j]!.next + 1 }).length = m.length := List.length_set
  refine bD (Le.cls (o := 0) (q := 5) (j := j) (k := r.length + 1) (m := m.set j { m[j]! with next := m[j]!.next + 1 }) (r := r ++ [⟨m[j]!.next,u⟩]) rfl rfl (by rw [List.length_append]; rfl) (by omega) (by decide)) ?_
  refine bD (Le.frzD (d := 8) (i := 0) rfl rfl) ?_
  have e : (m.set j { m[j]! with next := m[j]!.next + 1 }).set j { (m.set j { m[j]! with next := m[j]!.next + 1 })[j]! with stk := r ++ [⟨m[j]!.next, u⟩] } = m.set j (psh { m[j]! with stk := r } u) := by
   rw [iG hj,set_set]; rfl
  rw [e]
  refine aC (l := [.imm m.length (aA a8 (m.set j (psh { m[j]! with stk := r } u))),.agg [iv (j : Int),iv m[j]!.next],iv 0]) rfl ?_
  refine aQ () trivial ?_ trivial
  unfold gL gJ gK;rw [if_neg hf,if_neg hf,if_neg hf,dI (by rw [List.length_set])]; rfl
 ·have hf : k5 m j r := .inl (by omega)
  refine aC (l := [sl a8 b,.agg [iv 0,iv 0],iv 4]) rfl ?_
  refine aQ () trivial ?_ trivial
  unfold gL gJ gK;rw [if_pos hf,if_pos hf,if_pos hf]; rfl
theorem wR {stk r:List Tg}{k:Nat}{x0 x1:Operand}(ha0:ev (lk tsl) x0 = some (sl bT stk)) (ha1:ev (lk tsl) x1 = some (iv (k:Int))) (hmc:MC Tryz.prog 217 [sl bT stk,iv (k:Int)] [] 0 (fun _:Unit => True) (fun _ => .own 1 0 r.length 2) (fun _ => [(1,some (aA bT r))])) (hM:Nat.ble (nidl + 2) cW = true) (hN:Nat.blt d N = true){md':Md}[hmd:MdA md (fH [x0,x1] ++ []) (List.map Sum.inr (List.map Prod.fst ([((nidl + 1),some (aA bT r))]:List (Nat × Option (List AV)))) ++ [.inl d]) md'] (kk:RW Tryz.prog N all Q md' rest ⟨(d,.own (nidl + 1) 0 r.length 2) :: tsl,gH hsl [((nidl + 1),some (aA bT r))],nidl + 2,z0⟩):RW Tryz.prog N all Q md (⟨some d,.call ⟨.value (.func 217),#[x0,x1],tys⟩,ty,pos,af,none⟩ :: rest) ⟨tsl,hsl,nidl,z0⟩:=by
 exact aZ (l := [x0,x1]) [] 2 [((nidl + 1),some (aA bT r))] hmc (avs := [sl bT stk,iv (k : Int)]) (by simp only [evL,ha0,ha1]) rfl hM hN (md' := md') (hmd := hmd) kk
theorem Bx (stk r:List Tg) (k:Nat) (hr:r = dJ stk k false) (hk:k < stk.length) (hl:stk.length ≤ 1048576):MC Tryz.prog 217 [sl bT stk,iv (k:Int)] [] 0 (fun _:Unit => True) (fun _ => .own 1 0 r.length 2) (fun _ => [(1,some (aA bT r))]):=by
 have e1 : List.take (((k : Int) + 1).toNat - 0) (List.drop 0 stk) = stk.take (k + 1) := by rw [List.drop_zero]; congr 1
 have e2 : (stk.take (k + 1)).length = k + 1 := by rw [List.length_take]; omega
 refine aT Tryz.func217 Tryz.ntmps217 ?_
 repeat' (first|(apply aF;(with_reducible apply a6 (d := 12)))|refine aE ?_|fail)
 refine b7 ?_
 rw [e1]
 repeat' (first|refine aE ?_|fail)
 refine aK (σ := Nat × List Tg × Nat) [0] [] (fun s => [(6,iv (s.1 : Int)),(5,.own 1 0 s.2.2 2)]) (fun s => [(1,some (aA bT s.2.1))]) (fun s => k + 1 ≤ s.1 ∧ s.1 ≤ stk.length ∧ s.2.1 = stk.take (k + 1) ++ ((stk.drop (k + 1)).take (s.1 - (k + 1))).filter (fun t => !t.uq) ∧ s.2.2 = s.2.1.length ∧ s.2.2 ≤ s.1) (fun s => stk.length - s.1) (k + 1,stk.take (k + 1),0 + (stk.take (k + 1)).length) ⟨Nat.le_refl _,by dsimp only;omega,by simp,by dsimp only;omega,by dsimp only;omega⟩ ?_
 rintro ⟨i,xs,n⟩ ⟨hki,hi,hxs,hn,hni⟩
 dsimp only at hki hi hxs hn hni ⊢
 repeat' (first|(apply aF;first|(apply dH;rfl;rfl;rfl;rfl;rfl;(rw [aI]; omega);(rfl);omega;omega;(exact n7 (by (assumption)));rfl;rfl)|(apply aM (t := _);rfl;rfl;rfl;(exact (rfl:_=some [_,_]));rfl;rfl))|refine aE ?_|(refine aL ?_ ?_ <;> intro hc hq <;> try (exfalso;omega))|fail)
 ·(refine c9 (i + 1, _, _) (Le.renA [(1, 3)]) ?_ ?_)
  ·refine ⟨by dsimp only; omega, by dsimp only; omega, ?_, by dsimp only; rw [List.length_append, hn]; rfl, by dsimp only; omega⟩
   dsimp only
   rw [hxs,gQ stk hki (by omega),List.filter_append,List.append_assoc]
   congr 2
   have hu : stk[i]!.uq = false := by assumption
   rw [mI (by rw [hu]; rfl)]
  ·dsimp only;omega
 ·(refine c9 (i + 1, xs, n) (Le.renA [(1, 1)]) ?_ ?_)
  ·refine ⟨by dsimp only; omega, by dsimp only; omega, ?_, hn, by dsimp only; omega⟩
   dsimp only
   have hu : stk[i]!.uq = true := by assumption
   rw [hxs,gQ stk hki (by omega),List.filter_append,j9 (by rw [hu]; rfl),List.append_nil]
  ·dsimp only;omega
 ·have hie : i = stk.length := by omega
  have hd : (stk.drop (k + 1)).take (stk.length - (k + 1)) = stk.drop (k + 1) := List.take_of_length_le (by rw [List.length_drop]; exact Nat.le_refl _)
  have hxr : xs = r := by rw [hxs,hie,hd,hr]; rfl
  subst hxr
  (refine aC rfl ?_; refine aQ () trivial ?_ ⟨sE ?_,trivial⟩)
  ·rw [hn]; rfl
  ·rfl
theorem CN {m:List Cl}{x:Pt}{j:Nat}{r:List Tg}{v:Int}{x0 x1:Operand}(ha0:ev (lk tsl) x0 = some (sl a8 m)) (ha1:ev (lk tsl) x1 = some (jR x)) (hmc:MC Tryz.prog 196 [sl a8 m,jR x] [] 0 (fun _:Unit => True) (fun _ => .tup [.own 1 0 m.length 4,iv v,iv 0]) (fun _ => [(1,some (aA dK (cF m j (.own 3 0 r.length 2)))),(3,some (aA bT r))])) (hM:Nat.ble (nidl + 4) cW = true) (hN:Nat.blt d N = true){md':Md}[hmd:MdA md (fH [x0,x1] ++ []) (List.map Sum.inr (List.map Prod.fst ([((nidl + 1),some (aA dK (cF m j (.own (nidl + 3) 0 r.length 2)))),((nidl + 3),some (aA bT r))]:List (Nat × Option (List AV)))) ++ [.inl d]) md'] (kk:RW Tryz.prog N all Q md' rest ⟨(d,.tup [.own (nidl + 1) 0 m.length 4,iv v,iv 0]) :: tsl,gH hsl [((nidl + 1),some (aA dK (cF m j (.own (nidl + 3) 0 r.length 2)))),((nidl + 3),some (aA bT r))],nidl + 4,z0⟩):RW Tryz.prog N all Q md (⟨some d,.call ⟨.value (.func 196),#[x0,x1],tys⟩,ty,pos,af,none⟩ :: rest) ⟨tsl,hsl,nidl,z0⟩:=by
 exact aZ (l := [x0,x1]) [] 4 [((nidl + 1),some (aA dK (cF m j (.own (nidl + 3) 0 r.length 2)))),((nidl + 3),some (aA bT r))] hmc (avs := [sl a8 m,jR x]) (by simp only [evL,ha0,ha1]) rfl hM hN (md' := md') (hmd := hmd) kk
theorem Fm (m:List Cl) (x:Pt) (j:Nat) (r:List Tg) (v:Int) (hm:OkM m) (hk:aS m x false = 0) (hj:j = x.cell.toNat) (hr:r = dJ m[j]!.stk (bH m[j]!.stk x.tag).toNat false) (hv:v = m[j]!.val):MC Tryz.prog 196 [sl a8 m,jR x] [] 0 (fun _:Unit => True) (fun _ => .tup [.own 1 0 m.length 4,iv v,iv 0]) (fun _ => [(1,some (aA dK (cF m j (.own 3 0 r.length 2)))),(3,some (aA bT r))]):=by
 subst hj
 have hml := hm.l
 have hst : 0 ≤ x.cell → x.cell < m.length → m[x.cell.toNat]!.stk.length ≤ 1048576 := fun h1 h2 => Nat.le_trans (((b9 m).1 hm).2 x.cell.toNat (by omega)).l.2 (by decide)
 have hpl := iE m hm x
 rw [if_pos hk,hk] at hpl
 obtain ⟨h1,h2,h3,h4,_⟩ := cU hk
 have hbd := cZ m[x.cell.toNat]!.stk x.tag
 have hrd := Bx m[x.cell.toNat]!.stk r (bH m[x.cell.toNat]!.stk x.tag).toNat hr (by omega) (hst h1 h2)
 rw [Int.toNat_of_nonneg h4] at hrd
 obtain ⟨k,hkk⟩ := Int.eq_ofNat_of_zero_le h4
 rw [hkk] at hpl hrd
 refine aT Tryz.func196 Tryz.ntmps196 ?_
 repeat' (first|(apply aF;first|(apply dM;rfl;exact eF m hm;rfl;rfl)|(apply aB (k := 216);rfl;exact hpl;exact Pur.pf;rfl)|(apply wR;rfl;rfl;exact hrd;rfl;rfl)|(apply bC;rfl;rfl;rfl;rfl;rfl;(rw [aI]; simp only [kH] <;> omega);(exact rT (by (omega)))))|refine aE ?_|refine cC ?_|fail)
 (refine aC rfl ?_; refine aQ () trivial ?_ ⟨sE ?_,⟨sE ?_,trivial⟩⟩)
 ·rw [hv]; rfl
 ·rfl
 ·rfl
theorem A4 {m:List Cl}{x:Pt}{j:Nat}{r:List Tg}{x0 x1:Operand}(ha0:ev (lk tsl) x0 = some (sl a8 m)) (ha1:ev (lk tsl) x1 = some (jR x)) (hmc:MC Tryz.prog 211 [sl a8 m,jR x] [] 0 (fun _:Unit => True) (fun _ => .tup [.own 1 0 m.length 4,iv 0]) (fun _ => [(1,some (aA dK (cF m j (.own 3 0 r.length 2)))),(3,some (aA bT r))])) (hM:Nat.ble (nidl + 4) cW = true) (hN:Nat.blt d N = true){md':Md}[hmd:MdA md (fH [x0,x1] ++ []) (List.map Sum.inr (List.map Prod.fst ([((nidl + 1),some (aA dK (cF m j (.own (nidl + 3) 0 r.length 2)))),((nidl + 3),some (aA bT r))]:List (Nat × Option (List AV)))) ++ [.inl d]) md'] (kk:RW Tryz.prog N all Q md' rest ⟨(d,.tup [.own (nidl + 1) 0 m.length 4,iv 0]) :: tsl,gH hsl [((nidl + 1),some (aA dK (cF m j (.own (nidl + 3) 0 r.length 2)))),((nidl + 3),some (aA bT r))],nidl + 4,z0⟩):RW Tryz.prog N all Q md (⟨some d,.call ⟨.value (.func 211),#[x0,x1],tys⟩,ty,pos,af,none⟩ :: rest) ⟨tsl,hsl,nidl,z0⟩:=by
 exact aZ (l := [x0,x1]) [] 4 [((nidl + 1),some (aA dK (cF m j (.own (nidl + 3) 0 r.length 2)))),((nidl + 3),some (aA bT r))] hmc (avs := [sl a8 m,jR x]) (by simp only [evL,ha0,ha1]) rfl hM hN (md' := md') (hmd := hmd) kk
theorem Dg (m:List Cl) (x:Pt) (j:Nat) (r:List Tg) (hm:OkM m) (hk:aS m x true = 0) (hj:j = x.cell.toNat) (hr:r = dJ m[j]!.stk (bH m[j]!.stk x.tag).toNat true):MC Tryz.prog 211 [sl a8 m,jR x] [] 0 (fun _:Unit => True) (fun _ => .tup [.own 1 0 m.length 4,iv 0]) (fun _ => [(1,some (aA dK (cF m j (.own 3 0 r.length 2)))),(3,some (aA bT r))]):=by
 subst hj
 have hml := hm.l
 obtain ⟨h1,h2,h3,h4,hu⟩ := cU hk
 have hk0 : aS m x false = 0 := nL h1 h2 h3 h4
 have hs2 : m[x.cell.toNat]!.stk.length ≤ 200 := (((b9 m).1 hm).2 x.cell.toNat (by omega)).l.2
 have hpl := iE m hm x
 rw [if_pos hk0,hk0] at hpl
 have hbd := cZ m[x.cell.toNat]!.stk x.tag
 obtain ⟨k,hkk⟩ := Int.eq_ofNat_of_zero_le h4
 have hkt : (bH m[x.cell.toNat]!.stk x.tag).toNat = k := by omega
 rw [hkk] at hpl
 rw [hkt] at hr hu
 have hkn : k < m[x.cell.toNat]!.stk.length := by omega
 have e1 : List.take (((k : Int) + 1).toNat - 0) (List.drop 0 m[x.cell.toNat]!.stk) = r := by rw [List.drop_zero,hr]; unfold dJ;rw [if_pos rfl]; congr 1
 have e2 : r.length = k + 1 := by rw [← e1,List.drop_zero,List.length_take]; omega
 have hut := hu rfl
 refine aT Tryz.func211 Tryz.ntmps211 ?_
 repeat' (first|(apply aF;first|(apply dM;rfl;exact eF m hm;rfl;rfl)|(apply aB (k := 216);rfl;exact hpl;exact Pur.pf;rfl)|(with_reducible apply a6 (d := 46)))|refine aE ?_|(refine aL ?_ ?_ <;> intro hc hq <;> try (exfalso;omega))|refine cC ?_|fail)
 ·exfalso; have hf : m[x.cell.toNat]!.stk[k]!.uq = false := by assumption
  rw [hut] at hf;exact absurd hf (by decide)
 refine b7 ?_
 rw [e1]
 repeat' (first|(apply aF;(apply bC;rfl;rfl;rfl;rfl;rfl;(rw [aI]; simp only [kH] <;> omega);(exact rT (by (omega)))))|refine aE ?_|fail)
 (refine aC rfl ?_; refine aQ () trivial ?_ ⟨sE ?_,⟨sE ?_,trivial⟩⟩)
 ·rfl
 ·rw [Nat.zero_add r.length]
 ·rfl
theorem iP {m:List Cl}{x:Pt}{u:Bool}{r:List Tg}(hk:aS m x u = 0) (hr:r = dJ m[x.cell.toNat]!.stk (bH m[x.cell.toNat]!.stk x.tag).toNat u):gX m x u = gK m x.cell.toNat r ∧ fY m x u = gL m m x.cell.toNat u r ∧ lQ m x u = gJ m x.cell.toNat r:=by
 obtain ⟨h1,h2,_⟩ := cU hk
 subst hr
 have e : gX m x u = gK m x.cell.toNat (dJ m[x.cell.toNat]!.stk (bH m[x.cell.toNat]!.stk x.tag).toNat u) := by
  unfold gX;rw [if_pos hk]; rfl
 refine ⟨e,?_,?_⟩
 ·unfold fY gL
  rw [e]; unfold gK
  split
  ·rw [if_neg (by decide)]
  ·rw [if_pos rfl]; rfl
 ·unfold lQ gJ
  rw [e]; unfold gK
  split
  ·rw [if_neg (by decide)]
  ·rw [if_pos rfl,Int.toNat_of_nonneg h1]
theorem BR {m:List Cl}{x:Pt}{u:Bool}(hk:aS m x u ≠ 0):gX m x u = aS m x u ∧ fY m x u = m ∧ lQ m x u = ⟨0,0⟩:=by
 have e : gX m x u = aS m x u := by unfold gX;rw [if_neg hk]
 exact ⟨e,by unfold fY;rw [if_neg (by rw [e]; exact hk)],by unfold lQ;rw [if_neg (by rw [e]; exact hk)]⟩
theorem tL (m:List Cl) (hm:OkM m) (x:Pt):PC Tryz.prog 214 [sl a8 m,jR x] (fun r => r = .tup [sl a8 (fY m x false),jR (lQ m x false),iv (gX m x false)]):=by
 have hml := hm.l
 by_cases hk : aS m x false = 0
 ·obtain ⟨c, t⟩ := x
  obtain ⟨h1,h2,_⟩ := cU hk
  have h1' : 0 ≤ c := h1
  obtain ⟨j,rfl⟩ := Int.eq_ofNat_of_zero_le h1'
  have h2' : (j : Int) < m.length := h2
  have hc := ((b9 m).1 hm).2 j (by omega)
  obtain ⟨r,hr⟩ : ∃ r,r = dJ m[j]!.stk (bH m[j]!.stk t).toNat false := ⟨_,rfl⟩
  have hrl : r.length ≤ 200 := by rw [hr]; exact Nat.le_trans tchS_sub.length_le hc.l.2
  obtain ⟨e1,e2,e3⟩ := iP hk hr
  have hpu := vV m m j false r m.length r.length hm rfl rfl (by omega) (by have := hc.n;omega) hrl hml
  rw [e1,e2,e3]
  refine aD Tryz.func214 Tryz.ntmps214 ?_
  repeat' (first|(apply aF;first|(apply CN (j := j) (r := r) (v := m[j]!.val);rfl;rfl;exact Fm m _ _ r _ hm hk rfl hr rfl;rfl;rfl)|(apply rG (m := m) (b := m) (j := j) (u := false) (r := r) (n := m.length) (k := r.length);rfl;rfl;rfl;rfl;rfl;rfl;rfl;exact hpu;rfl;rfl))|refine aE ?_|fail)
  exact aC (l := [sl a8 (gL m m j false r),.agg [iv (gJ m j r).cell,iv (gJ m j r).tag],iv (gK m j r)]) rfl ⟨rfl,by exact Pur.pf⟩
 ·obtain ⟨e1, e2, e3⟩ := BR hk
  have hrd := mY m hm x
  have e4 : bX m x false = m := by unfold bX;rw [if_neg hk]
  rw [e4] at hrd
  rw [e1,e2,e3]
  refine aD Tryz.func214 Tryz.ntmps214 ?_
  repeat' (first|(apply aF;(apply aB (k := 196);rfl;exact hrd;exact Pur.pf;rfl))|refine aE ?_|(refine aL ?_ ?_ <;> intro hc hq <;> try (exfalso;omega))|fail)
  skip
  exact aC (l := [sl a8 m,.agg [iv 0,iv 0],iv (aS m x false)]) rfl ⟨rfl,by exact Pur.pf⟩
theorem p9 (m:List Cl) (hm:OkM m) (x:Pt):PC Tryz.prog 215 [sl a8 m,jR x] (fun r => r = .tup [sl a8 (fY m x true),jR (lQ m x true),iv (gX m x true)]):=by
 have hml := hm.l
 by_cases hk : aS m x true = 0
 ·obtain ⟨c, t⟩ := x
  obtain ⟨h1,h2,_⟩ := cU hk
  have h1' : 0 ≤ c := h1
  obtain ⟨j,rfl⟩ := Int.eq_ofNat_of_zero_le h1'
  have h2' : (j : Int) < m.length := h2
  have hc := ((b9 m).1 hm).2 j (by omega)
  obtain ⟨r,hr⟩ : ∃ r,r = dJ m[j]!.stk (bH m[j]!.stk t).toNat true := ⟨_,rfl⟩
  have hrl : r.length ≤ 200 := by rw [hr]; exact Nat.le_trans tchS_sub.length_le hc.l.2
  obtain ⟨e1,e2,e3⟩ := iP hk hr
  have hpu := vV m m j true r m.length r.length hm rfl rfl (by omega) (by have := hc.n;omega) hrl hml
  rw [e1,e2,e3]
  refine aD Tryz.func215 Tryz.ntmps215 ?_
  repeat' (first|(apply aF;first|(apply A4 (j := j) (r := r);rfl;rfl;exact Dg m _ _ r hm hk rfl hr;rfl;rfl)|(apply rG (m := m) (b := m) (j := j) (u := true) (r := r) (n := m.length) (k := r.length);rfl;rfl;rfl;rfl;rfl;rfl;rfl;exact hpu;rfl;rfl))|refine aE ?_|fail)
  exact aC (l := [sl a8 (gL m m j true r),.agg [iv (gJ m j r).cell,iv (gJ m j r).tag],iv (gK m j r)]) rfl ⟨rfl,by exact Pur.pf⟩
 ·obtain ⟨e1, e2, e3⟩ := BR hk
  have hwr := fW m x hm
  have e4 : bX m x true = m := by unfold bX;rw [if_neg hk]
  rw [e1,e2,e3]
  refine aD Tryz.func215 Tryz.ntmps215 ?_
  repeat' (first|(apply aF;(apply fL;rfl;rfl;exact hwr;rfl;rfl))|refine aE ?_|(refine aL ?_ ?_ <;> intro hc hq <;> try (exfalso;omega))|fail)
  refine bD (Le.frzD (d := 4) (i := 3) (m := m.length) (cs := aA a8 (bX m x true)) rfl rfl) ?_
  rw [e4]
  exact aC (l := [sl a8 m,.agg [iv 0,iv 0],iv (aS m x true)]) rfl ⟨rfl,by exact Pur.pf⟩
end Go.Proofs.YtgkalkgplcdnkaaGreat
