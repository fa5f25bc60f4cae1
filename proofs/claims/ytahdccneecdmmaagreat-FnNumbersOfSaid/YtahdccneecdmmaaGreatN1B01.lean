/-
 A part of the proofs over this program: rules and contracts of its functions (the contracts).
-/
import Derived.Test.YtahdccneecdmmaaGreatN1A06
import Derived.Test.YtahdccneecdmmaaGreatRows
set_option linter.unusedVariables false
set_option linter.unusedSimpArgs false
set_option maxHeartbeats 8000000
set_option maxRecDepth 4000
attribute [local irreducible] Go.AL.RW Go.AL.AW Go.AL.Stop
namespace Go.Proofs.YtahdccneecdmmaaGreat
open Go.AL
theorem bQ (a b c:Int):PC Tryz.prog 54 [iv a,iv b,iv c] (fun r => r = bv (decide (b ≤ a) && decide (a ≤ c))):=by
 refine aC Tryz.func54 Tryz.ntmps54 ?_
 repeat' (first|refine aE ?_|(refine bS ?_ ?_ <;> intro hg hq <;> try (exfalso;omega))|refine cS ?_|fail)
 all_goals (refine ⟨?_,rfl⟩; simp only [aP,AV.v.injEq,Value.bool.injEq,Value.int.injEq,true_and])
 all_goals grind
theorem BO (t:Int):PC Tryz.prog 234 [iv t] (fun r => r = bv (yX t)):=by
 refine aC Tryz.func234 Tryz.ntmps234 ?_
 repeat' (first|refine aE ?_|(refine bS ?_ ?_ <;> intro hg hq <;> try (exfalso;omega))|refine cS ?_|fail)
 all_goals (refine ⟨?_,rfl⟩; simp only [aP,AV.v.injEq,Value.bool.injEq,Value.int.injEq,true_and])
 all_goals grind [yX]
theorem wF (t:Int):PC Tryz.prog 263 [iv t] (fun r => r = bv (decide (t = 2) || yX t)):=by
 refine aC Tryz.func263 Tryz.ntmps263 ?_
 repeat' (first|(apply aD;(apply aA (k := 234);rfl;(apply BO);(rfl);rfl))|refine aE ?_|(refine bS ?_ ?_ <;> intro hg hq <;> try (exfalso;omega))|refine cS ?_|fail)
 all_goals (refine ⟨?_,rfl⟩; simp only [aP,AV.v.injEq,Value.bool.injEq,Value.int.injEq,true_and])
 all_goals grind
theorem wK (t:Int):PC Tryz.prog 230 [iv t] (fun r => r = bv (decide (t = 9) || decide (t = 10))):=by
 refine aC Tryz.func230 Tryz.ntmps230 ?_
 repeat' (first|refine aE ?_|(refine bS ?_ ?_ <;> intro hg hq <;> try (exfalso;omega))|refine cS ?_|fail)
 all_goals (refine ⟨?_,rfl⟩; simp only [aP,AV.v.injEq,Value.bool.injEq,Value.int.injEq,true_and])
 all_goals grind
theorem CL (ts:List Int) (v:Int):PC Tryz.prog 264 [sl cI ts,iv v] (fun r => r = iv (dC ts v)):=by
 refine aC Tryz.func264 Tryz.ntmps264 ?_
 repeat' (first|refine aE ?_|(refine aM ?_ ?_ <;> intro hc hq <;> try (exfalso;omega))|(refine bS ?_ ?_ <;> intro hg hq <;> try (exfalso;omega))|refine cS ?_|fail)
 all_goals (refine ⟨?_,rfl⟩; simp only [aP,AV.v.injEq,Value.bool.injEq,Value.int.injEq,true_and])
 all_goals grind [dC]
theorem Cx (ts:List Int) (v:Int) (hl:ts.length ≤ 1048576):PC Tryz.prog 55 [sl cI ts,iv v] (fun r => r = iv (dC ts v)):=by
 refine aC Tryz.func55 Tryz.ntmps55 ?_
 repeat' (first|(apply aD;(apply aA (k := 54);rfl;(apply bQ);(rfl);rfl))|refine aE ?_|(refine aM ?_ ?_ <;> intro hc hq <;> try (exfalso;omega))|refine cS ?_|fail)
 all_goals (refine ⟨?_,rfl⟩; simp only [aP,AV.v.injEq,Value.bool.injEq,Value.int.injEq,true_and])
 all_goals grind [dC]
theorem wH (ts:List Int) (s:AL.Stmt) (hl:a6 ts = true):PC Tryz.prog 231 [sl cI ts,cX s] (fun r => r = bv (s.th.isEmpty && s.el.isEmpty && cD ts s)):=by
 have hl2 := eQ hl
 have hx := e9 hl s.x
 have hy := e9 hl s.y
 refine aC Tryz.func231 Tryz.ntmps231 ?_
 repeat' (first|(apply aD;(first|(apply aA (k := 54);rfl;(apply bQ);(rfl);rfl)|(apply aA (k := 55);rfl;(apply Cx <;> (omega));exact Pur.pf;rfl)|(apply aA (k := 263);rfl;(apply wF);(rfl);rfl)))|refine aE ?_|(refine aM ?_ ?_ <;> intro hc hq <;> try (exfalso;omega))|(refine bS ?_ ?_ <;> intro hg hq <;> try (exfalso;omega))|refine cE ?_|refine cS ?_|fail)
 all_goals (refine ⟨?_,rfl⟩; simp only [aP,AV.v.injEq,Value.bool.injEq,Value.int.injEq,true_and])
 all_goals (cases hth : s.th <;> cases hel : s.el <;> simp only [hth,hel,List.length_nil,List.length_cons,List.isEmpty_nil,List.isEmpty_cons,Bool.true_and,Bool.false_and] at *)
 all_goals (try unfold cD)
 all_goals (try simp only [yX,Bool.or_eq_true,Bool.or_eq_false_iff,decide_eq_true_eq,decide_eq_false_iff_not] at *)
 all_goals grind
theorem wG (ts:List Int) (s:AL.Stmt) (hl:a6 ts = true):PC Tryz.prog 238 [sl cI ts,cX s] (fun r => r = bv (cD ts s)):=by
 have hl2 := eQ hl
 have hx := e9 hl s.x
 have hy := e9 hl s.y
 refine aC Tryz.func238 Tryz.ntmps238 ?_
 repeat' (first|(apply aD;(apply aA (k := 264);rfl;(apply CL);exact Pur.pf;rfl))|refine aE ?_|(refine aM ?_ ?_ <;> intro hc hq <;> try (exfalso;omega))|(refine bS ?_ ?_ <;> intro hg hq <;> try (exfalso;omega))|refine cS ?_|fail)
 all_goals (refine ⟨?_,rfl⟩; simp only [aP,AV.v.injEq,Value.bool.injEq,Value.int.injEq,true_and])
 all_goals (try unfold cD)
 all_goals grind
theorem Aj (ts:List Int) (hl:a6 ts = true) (m:Nat) (ih:∀ l (d:Int),aK l < m → 0 ≤ d → d ≤ 1000 → PC Tryz.prog 128 [sl cI ts,sl aH l,iv d] (fun r => r = bv (okL ts d.toNat l))) (s:AL.Stmt) (d:Int) (hs:bJ s ≤ m) (hd0:0 ≤ d) (hd:d ≤ 1000) :
  PC Tryz.prog 195 [sl cI ts,cX s,iv d] (fun r => r = bv (oB ts d.toNat s)) := by
 rw [EY ts d hd0]
 refine aC Tryz.func195 Tryz.ntmps195 ?_
 repeat' (first|(apply aD;(first|(apply aA (k := 128);rfl;(apply ih <;> (first|omega|(have := hO s;omega)));exact Pur.pf;rfl)|(apply aA (k := 238);rfl;(apply wG <;> (assumption));exact Pur.pf;rfl)))|refine aE ?_|(refine aM ?_ ?_ <;> intro hc hq <;> try (exfalso;omega))|(refine bS ?_ ?_ <;> intro hg hq <;> try (exfalso;omega))|refine cS ?_|fail)
 all_goals (refine ⟨?_,rfl⟩; simp only [aP,AV.v.injEq,Value.bool.injEq,Value.int.injEq,true_and])
 all_goals (cases hth : s.th <;> cases hel : s.el <;> simp only [hth,hel,List.length_nil,List.length_cons,List.isEmpty_nil,List.isEmpty_cons,Bool.true_and,Bool.false_and] at *)
 all_goals grind
theorem Bm (ts:List Int) (hl:a6 ts = true) (m:Nat) (ih:∀ s (d:Int),bJ s ≤ m → 0 ≤ d → d ≤ 1000 → PC Tryz.prog 195 [sl cI ts,cX s,iv d] (fun r => r = bv (oB ts d.toNat s))) (l:List AL.Stmt) (d:Int) (hs:aK l ≤ m) (hm:m ≤ 100000000) (hd0:0 ≤ d) (hd:d ≤ 1000) :
  PC Tryz.prog 128 [sl cI ts,sl aH l,iv d] (fun r => r = bv (okL ts d.toNat l)) := by
 have hlen := cN l
 refine aC Tryz.func128 Tryz.ntmps128 ?_
 repeat' (first|refine aE ?_|fail)
 refine aL (σ := Nat) [0,1,2] [] (fun k => [(7,iv (k : Int))]) (fun k => []) (fun k => k ≤ l.length ∧ ∀ i,i < k → oB ts d.toNat l[i]! = true) (fun k => l.length - k) (0) ⟨by omega,by omega⟩ ?_
 intro k ⟨hk,hall⟩
 have hck := dM l k
 repeat' (first|(apply aD;(apply aA (k := 195);rfl;(apply ih _ d (Nat.le_trans (hck (by omega)) hs) hd0 hd);exact Pur.pf;rfl))|refine aE ?_|(refine aM ?_ ?_ <;> intro hc hq <;> try (exfalso;omega))|refine cS ?_|fail)
 ·(refine ⟨?_, rfl⟩; simp only [aP, AV.v.injEq, Value.bool.injEq, Value.int.injEq, true_and])
  rw [CI (k := k) (by omega) hq]
 ·(refine bX (k + 1) (Le.renA []) ?_ ?_)
  ·grind
  ·omega
 ·(refine ⟨?_, rfl⟩; simp only [aP, AV.v.injEq, Value.bool.injEq, Value.int.injEq, true_and])
  rw [E5 (fun i hi => hall i (by omega))]
theorem Ev (ts:List Int) (hl:a6 ts = true):∀ (m:Nat),m ≤ 100000000 → (∀ s (d:Int),bJ s ≤ m → 0 ≤ d → d ≤ 1000 → PC Tryz.prog 195 [sl cI ts,cX s,iv d] (fun r => r = bv (oB ts d.toNat s))) ∧
  (∀ l (d : Int),aK l ≤ m → 0 ≤ d → d ≤ 1000 → PC Tryz.prog 128 [sl cI ts,sl aH l,iv d] (fun r => r = bv (okL ts d.toNat l))) := by
 intro m
 induction m using Nat.strongRecOn with
 | ind m ih =>
  intro hm
  have h1 : ∀ s (d : Int), bJ s ≤ m → 0 ≤ d → d ≤ 1000 → PC Tryz.prog 195 [sl cI ts, cX s, iv d] (fun r => r = bv (oB ts d.toNat s)) :=
   fun s d h1 h2 h3 => Aj ts hl m (fun l d' g1 g2 g3 => (ih (aK l) g1 (by omega)).2 l d' (Nat.le_refl _) g2 g3) s d h1 h2 h3
  exact ⟨h1,fun l d g1 g2 g3 => Bm ts hl m h1 l d g1 hm g2 g3⟩
theorem xO (m0:Nat) (ih:∀ l (most:Int),aK l < m0 → -1 ≤ most → most ≤ 1000 → PC Tryz.prog 129 [sl aH l,iv most] (fun r => r = iv (jR most 0 l))) (l:List AL.Stmt) (most:Int) (hs:aK l ≤ m0) (hm:m0 ≤ 100000000) (hd0:-1 ≤ most) (hd:most ≤ 1000) :
  PC Tryz.prog 129 [sl aH l,iv most] (fun r => r = iv (jR most 0 l)) := by
 have hlen := cN l
 have hall := iQ l most 0
 refine aC Tryz.func129 Tryz.ntmps129 ?_
 repeat' (first|refine aE ?_|fail)
 refine aL (σ := Nat × Int) [0,1] [] (fun k => [(6,iv (k.1 : Int)),(5,iv k.2)]) (fun k => []) (fun k => k.1 ≤ l.length ∧ jR most k.2 (l.drop k.1) = jR most 0 l ∧ 0 ≤ k.2 ∧ k.2 ≤ aK l) (fun k => l.length - k.1) (0,0) ⟨by omega,rfl,by omega,by omega⟩ ?_
 rintro ⟨k,n⟩ ⟨hk,hn,hn0,hn1⟩
 dsimp only at hk hn hn0 hn1 ⊢
 have hck := dM l k
 have hct := hO l[k]!
 have b1 := iQ l[k]!.th (most - n) 0
 have b2 := fun z => iQ l[k]!.el z 0
 have b3 := CM l[k]! most n
 have b4 := iQ (l.drop (k + 1)) most (Cj most n l[k]!)
 have b5 := Cs most n l k
 rw [Fk] at b3 b4 b5
 repeat' (first|(apply aD;(apply aA (k := 129);rfl;(apply ih <;> omega);exact Pur.pf;rfl))|refine aE ?_|(refine aM ?_ ?_ <;> intro hc hq <;> try (exfalso;omega))|(refine bS ?_ ?_ <;> intro hg hq <;> try (exfalso;omega))|refine cS ?_|fail)
 ·(refine bX (k + 1, n + 1 + jR (most - n) 0 l[k]!.th + jR (most - (n + 1 + jR (most - n) 0 l[k]!.th)) 0 l[k]!.el) (Le.renA []) ?_ ?_)
  ·dsimp only;grind
  ·dsimp only;omega
 ·(refine bX (k + 1, n + 1 + jR (most - n) 0 l[k]!.th) (Le.renA []) ?_ ?_)
  ·dsimp only;grind
  ·dsimp only;omega
 ·(refine ⟨?_, rfl⟩; simp only [aP, AV.v.injEq, Value.bool.injEq, Value.int.injEq, true_and])
  rw [← hn,Cz _ _ _ (by omega)]
 ·(refine ⟨?_, rfl⟩; simp only [aP, AV.v.injEq, Value.bool.injEq, Value.int.injEq, true_and])
  rw [← hn,Ei _ _ _ _ (by omega)]
theorem zV (l:List AL.Stmt) (most:Int) (hs:aK l ≤ 100000000) (hd0:-1 ≤ most) (hd:most ≤ 1000) :
  PC Tryz.prog 129 [sl aH l,iv most] (fun r => r = iv (jR most 0 l)) := by
 have h : ∀ (m : Nat), m ≤ 100000000 → ∀ l (most : Int), aK l ≤ m → -1 ≤ most → most ≤ 1000 → PC Tryz.prog 129 [sl aH l, iv most] (fun r => r = iv (jR most 0 l)) := by
  intro m
  induction m using Nat.strongRecOn with
  | ind m ih =>
   intro hm l most h1 h2 h3
   exact xO m (fun l' most' g1 g2 g3 => ih _ g1 (by omega) l' most' (Nat.le_refl _) g2 g3) l most h1 hm h2 h3
 exact h _ hs l most (Nat.le_refl _) hd0 hd
theorem DG (ts:List Int) (l:List AL.Stmt) (d:Int) (hl:a6 ts = true) (hs:aK l ≤ 100000000) (hd0:0 ≤ d) (hd:d ≤ 1000):PC Tryz.prog 128 [sl cI ts,sl aH l,iv d] (fun r => r = bv (okL ts d.toNat l)) :=
 (Ev ts hl _ hs).2 l d (Nat.le_refl _) hd0 hd
theorem pF (ts:List Int) (hl:ts.length ≤ 1048576):PC Tryz.prog 127 [sl cI ts] (fun r => r = bv (a6 ts)):=by
 refine aC Tryz.func127 Tryz.ntmps127 ?_
 repeat' (first|refine aE ?_|fail)
 refine aL (σ := Nat) [0] [] (fun k => [(3,iv (k : Int))]) (fun k => []) (fun k => k ≤ ts.length ∧ ∀ i,i < k → 1 ≤ ts[i]! ∧ ts[i]! ≤ 4) (fun k => ts.length - k) (0) ⟨by omega,by omega⟩ ?_
 intro k ⟨hk,hall⟩
 repeat' (first|refine aE ?_|(refine aM ?_ ?_ <;> intro hc hq <;> try (exfalso;omega))|(refine bS ?_ ?_ <;> intro hg hq <;> try (exfalso;omega))|refine cS ?_|fail)
 ·(refine ⟨?_, rfl⟩; simp only [aP, AV.v.injEq, Value.bool.injEq, Value.int.injEq, true_and])
  unfold a6;grind [jM,fZ]
 ·(refine bX (k + 1) (Le.renA []) ?_ ?_)
  ·grind
  ·omega
 ·(refine ⟨?_, rfl⟩; simp only [aP, AV.v.injEq, Value.bool.injEq, Value.int.injEq, true_and])
  unfold a6;grind [jM,fZ]
 ·(refine ⟨?_, rfl⟩; simp only [aP, AV.v.injEq, Value.bool.injEq, Value.int.injEq, true_and])
  unfold a6;grind [jM,fZ]
theorem nQ (p:Prg) (hl:p.types.length ≤ 1048576) (hs:aK p.body ≤ 100000000):PC Tryz.prog 61 [bE p] (fun r => r = bv (bK p)):=by
 unfold bK
 cases ht : a6 p.types
 ·refine aC Tryz.func61 Tryz.ntmps61 ?_
  repeat' (first|(apply aD;(apply aA (k := 127);rfl;(apply pF <;> (assumption));exact Pur.pf;rfl))|refine aE ?_|refine cS ?_|fail)
  (refine ⟨?_,rfl⟩; simp only [aP,AV.v.injEq,Value.bool.injEq,Value.int.injEq,true_and])
  rfl
 ·refine aC Tryz.func61 Tryz.ntmps61 ?_
  repeat' (first|(apply aD;(first|(apply aA (k := 127);rfl;(apply pF <;> (assumption));exact Pur.pf;rfl)|(apply aA (k := 128);rfl;(apply DG <;> (first|assumption|omega));exact Pur.pf;rfl)|(apply aA (k := 129);rfl;(apply zV <;> (first|assumption|omega));exact Pur.pf;rfl)))|refine aE ?_|(refine bS ?_ ?_ <;> intro hg hq <;> try (exfalso;omega))|refine cS ?_|fail)
  ·(refine ⟨?_, rfl⟩; simp only [aP, AV.v.injEq, Value.bool.injEq, Value.int.injEq, true_and])
   rw [show okL p.types 4 p.body = true from hq]; simp only [Bool.true_and,Hx,decide_eq_decide]; omega
  ·(refine ⟨?_, rfl⟩; simp only [aP, AV.v.injEq, Value.bool.injEq, Value.int.injEq, true_and])
   rw [show okL p.types 4 p.body = false from hq]; rfl
end Go.Proofs.YtahdccneecdmmaaGreat
namespace Go.Proofs.YtahdccneecdmmaaGreat
open Go.AL Go.RowKit
variable {N : Nat} {Q : Exit → AS → Prop} {all : Array Oper} {rest : List Oper} {tsl : List (Nat × AV)} {hsl : List (Nat × Option (List AV))} {nidl : Nat} {z0 : Lo} {md : Md} {d : Nat} {ty : TypeId} {pos : String} {af : Array Edge} {tys : Array TypeId}
theorem E9 {ts:List Int}{s:AL.Stmt}{nest c:Int}{x0 x1 x2 x3:Operand}{i0:Nat}(ha0:ev (lk tsl) x0 = some (sl cI ts)) (ha1:ev (lk tsl) x1 = some (cX s)) (ha2:ev (lk tsl) x2 = some (iv nest)) (ha3:ev (lk tsl) x3 = some (.optr i0 0)) (hH0:aN hsl i0 = some ([iv c])) (hmc:MC Tryz.prog 180 [sl cI ts,cX s,iv nest,.optr 0 0] [(0,some ([iv c]))] 1 (fun _:Unit => True) (fun _ => bv (iX ts nest c s).1) (fun _ => [(0,some ([iv (iX ts nest c s).2]))])) (hM:Nat.ble (nidl + 0) aU = true) (hN:Nat.blt d N = true){md':Md}[hmd:MdA md (dV [x0,x1,x2,x3] ++ [.inr i0]) (List.map Sum.inr (List.map Prod.fst ([(i0,some ([iv (iX ts nest c s).2]))]:List (Nat × Option (List AV)))) ++ [.inl d]) md'] (kk:RW Tryz.prog N all Q md' rest ⟨(d,bv (iX ts nest c s).1) :: tsl,eS hsl [(i0,some ([iv (iX ts nest c s).2]))],nidl + 0,z0⟩):RW Tryz.prog N all Q md (⟨some d,.call ⟨.value (.func 180),#[x0,x1,x2,x3],tys⟩,ty,pos,af,none⟩ :: rest) ⟨tsl,hsl,nidl,z0⟩:=by
 exact aT (l := [x0,x1,x2,x3]) [i0] 1 [(i0,some ([iv (iX ts nest c s).2]))] hmc (avs := [sl cI ts,cX s,iv nest,.optr i0 0]) (by simp only [evL,ha0,ha1,ha2,ha3]) rfl hM hN (md' := md') (hmd := hmd) kk
theorem n7 {ts:List Int}{l:List AL.Stmt}{nest c:Int}{x0 x1 x2 x3:Operand}{i0:Nat}(ha0:ev (lk tsl) x0 = some (sl cI ts)) (ha1:ev (lk tsl) x1 = some (sl aH l)) (ha2:ev (lk tsl) x2 = some (iv nest)) (ha3:ev (lk tsl) x3 = some (.optr i0 0)) (hH0:aN hsl i0 = some ([iv c])) (hmc:MC Tryz.prog 101 [sl cI ts,sl aH l,iv nest,.optr 0 0] [(0,some ([iv c]))] 1 (fun _:Unit => True) (fun _ => bv (gF ts nest c l).1) (fun _ => [(0,some ([iv (gF ts nest c l).2]))])) (hM:Nat.ble (nidl + 0) aU = true) (hN:Nat.blt d N = true){md':Md}[hmd:MdA md (dV [x0,x1,x2,x3] ++ [.inr i0]) (List.map Sum.inr (List.map Prod.fst ([(i0,some ([iv (gF ts nest c l).2]))]:List (Nat × Option (List AV)))) ++ [.inl d]) md'] (kk:RW Tryz.prog N all Q md' rest ⟨(d,bv (gF ts nest c l).1) :: tsl,eS hsl [(i0,some ([iv (gF ts nest c l).2]))],nidl + 0,z0⟩):RW Tryz.prog N all Q md (⟨some d,.call ⟨.value (.func 101),#[x0,x1,x2,x3],tys⟩,ty,pos,af,none⟩ :: rest) ⟨tsl,hsl,nidl,z0⟩:=by
 exact aT (l := [x0,x1,x2,x3]) [i0] 1 [(i0,some ([iv (gF ts nest c l).2]))] hmc (avs := [sl cI ts,sl aH l,iv nest,.optr i0 0]) (by simp only [evL,ha0,ha1,ha2,ha3]) rfl hM hN (md' := md') (hmd := hmd) kk
theorem Fz (ts:List Int) (htO:a6 ts = true) (m:Nat) (scanAll_ih:∀ l nest c,aK l < m → 0 ≤ nest → nest ≤ 4 → 0 ≤ c → c ≤ 30 → MC Tryz.prog 101 [sl cI ts,sl aH l,iv nest,.optr 0 0] [(0,some ([iv c]))] 1 (fun _:Unit => True) (fun _ => bv (gF ts nest c l).1) (fun _ => [(0,some ([iv (gF ts nest c l).2]))])) (s:AL.Stmt) (nest c:Int) (hs:bJ s ≤ m) (hn0:0 ≤ nest) (hn:nest ≤ 4) (hc0:0 ≤ c) (hc:c ≤ 30):MC Tryz.prog 180 [sl cI ts,cX s,iv nest,.optr 0 0] [(0,some ([iv c]))] 1 (fun _:Unit => True) (fun _ => bv (iX ts nest c s).1) (fun _ => [(0,some ([iv (iX ts nest c s).2]))]):=by
 have ct := hO s
 have hb1 := Gd ts s.th (nest + 1) (c + 1)
 refine aQ Tryz.func180 Tryz.ntmps180 ?_
 repeat' (first|(apply aD;(first|(apply n7;rfl;rfl;rfl;rfl;(rfl);(apply scanAll_ih <;> (first|assumption|omega|grind));rfl;rfl)|(apply aA (k := 230);rfl;(apply wK);(rfl);rfl)|(apply aA (k := 231);rfl;(apply wH <;> (assumption));exact Pur.pf;rfl)))|refine aE ?_|(refine aM ?_ ?_ <;> intro hc hq <;> try (exfalso;omega))|(refine bS ?_ ?_ <;> intro hg hq <;> try (exfalso;omega))|fail)
 all_goals (refine aB rfl ?_; refine aO () trivial ?_ ⟨sE ?_,trivial⟩)
 all_goals (try simp only [aP,AV.v.injEq,Value.bool.injEq,Value.int.injEq,true_and,fA,List.take,List.drop,List.length,List.append,List.nil_append,List.append_nil,Option.some.injEq,List.cons.injEq,and_true])
 all_goals rw [Ey]
 all_goals clear scanAll_ih
 all_goals (cases hel : s.el <;> simp only [hel,List.length_nil,List.length_cons] at * <;> grind)
theorem xR (ts:List Int) (m:Nat) (hm:m ≤ 100000000) (scan_ih:∀ s nest c,bJ s ≤ m → 0 ≤ nest → nest ≤ 4 → 0 ≤ c → c ≤ 30 → MC Tryz.prog 180 [sl cI ts,cX s,iv nest,.optr 0 0] [(0,some ([iv c]))] 1 (fun _:Unit => True) (fun _ => bv (iX ts nest c s).1) (fun _ => [(0,some ([iv (iX ts nest c s).2]))])) (l:List AL.Stmt) (nest c:Int) (hs:aK l ≤ m) (hn0:0 ≤ nest) (hn:nest ≤ 4) (hc0:0 ≤ c) (hc:c ≤ 30):MC Tryz.prog 101 [sl cI ts,sl aH l,iv nest,.optr 0 0] [(0,some ([iv c]))] 1 (fun _:Unit => True) (fun _ => bv (gF ts nest c l).1) (fun _ => [(0,some ([iv (gF ts nest c l).2]))]):=by
 have hlen := cN l
 refine aQ Tryz.func101 Tryz.ntmps101 ?_
 repeat' (first|refine aE ?_|fail)
 refine aL (σ := Nat × Int) [0,2,3,11,12] [] (fun k => [(13,iv (k.1 : Int))]) (fun k => [(0,some [iv k.2])]) (fun k => k.1 ≤ l.length ∧ gF ts nest k.2 (l.drop k.1) = gF ts nest c l ∧ 0 ≤ k.2 ∧ k.2 ≤ 30) (fun k => l.length - k.1) (0,c) ⟨by omega,rfl,by omega,by omega⟩ ?_
 rintro ⟨k,c'⟩ ⟨hk,hn,hn0,hn1⟩
 dsimp only at hk hn hn0 hn1 ⊢
 have hck := dM l k
 have hb1 := GG ts l[k]! nest c'
 have hst := @scL_stop ts nest c' l k
 repeat' (first|(apply aD;(apply E9;rfl;rfl;rfl;rfl;(rfl);(apply scan_ih <;> (first|assumption|omega));rfl;rfl))|refine aE ?_|(refine aM ?_ ?_ <;> intro hc hq <;> try (exfalso;omega))|fail)
 ·(refine aB rfl ?_; refine aO () trivial ?_ ⟨sE ?_, trivial⟩)
  all_goals (try simp only [aP,AV.v.injEq,Value.bool.injEq,Value.int.injEq,true_and,fA,List.take,List.drop,List.length,List.append,List.nil_append,List.append_nil,Option.some.injEq,List.cons.injEq,and_true])
  all_goals (rw [← hn,hst (by omega)]; grind)
 ·(refine bX (k + 1, (iX ts nest c' l[k]!).2) (Le.renA []) ?_ ?_)
  ·dsimp only;grind
  ·dsimp only;omega
 ·(refine aB rfl ?_; refine aO () trivial ?_ ⟨sE ?_, trivial⟩)
  all_goals (try simp only [aP,AV.v.injEq,Value.bool.injEq,Value.int.injEq,true_and,fA,List.take,List.drop,List.length,List.append,List.nil_append,List.append_nil,Option.some.injEq,List.cons.injEq,and_true])
  all_goals (rw [← hn,List.drop_of_length_le (by omega),gF])
theorem A6 (ts:List Int) (hl:a6 ts = true):∀ (m:Nat),m ≤ 100000000 → (∀ s (nest c:Int),bJ s ≤ m → 0 ≤ nest → nest ≤ 4 → 0 ≤ c → c ≤ 30 → MC Tryz.prog 180 [sl cI ts,cX s,iv nest,.optr 0 0] [(0,some ([iv c]))] 1 (fun _:Unit => True) (fun _ => bv (iX ts nest c s).1) (fun _ => [(0,some ([iv (iX ts nest c s).2]))])) ∧
  (∀ l (nest c : Int),aK l ≤ m → 0 ≤ nest → nest ≤ 4 → 0 ≤ c → c ≤ 30 → MC Tryz.prog 101 [sl cI ts,sl aH l,iv nest,.optr 0 0] [(0,some ([iv c]))] 1 (fun _ : Unit => True) (fun _ => bv (gF ts nest c l).1) (fun _ => [(0,some ([iv (gF ts nest c l).2]))])) := by
 intro m
 induction m using Nat.strongRecOn with
 | ind m ih =>
  intro hm
  have h1 : ∀ s (nest c : Int), bJ s ≤ m → 0 ≤ nest → nest ≤ 4 → 0 ≤ c → c ≤ 30 → MC Tryz.prog 180 [sl cI ts, cX s, iv nest, .optr 0 0] [(0, some ([iv c]))] 1 (fun _ : Unit => True) (fun _ => bv (iX ts nest c s).1) (fun _ => [(0, some ([iv (iX ts nest c s).2]))]) :=
   fun s nest c h1 h2 h3 h4 h5 => Fz ts hl m (fun l nest c g1 g2 g3 g4 g5 => (ih (aK l) g1 (by omega)).2 l nest c (Nat.le_refl _) g2 g3 g4 g5) s nest c h1 h2 h3 h4 h5
  exact ⟨h1,fun l nest c g1 g2 g3 g4 g5 => xR ts m hm h1 l nest c g1 g2 g3 g4 g5⟩
theorem Ag (ts:List Int) (l:List AL.Stmt) (nest c:Int) (hl:a6 ts = true) (hs:aK l ≤ 100000000) (hn0:0 ≤ nest) (hn:nest ≤ 4) (hc0:0 ≤ c) (hc:c ≤ 30):MC Tryz.prog 101 [sl cI ts,sl aH l,iv nest,.optr 0 0] [(0,some ([iv c]))] 1 (fun _:Unit => True) (fun _ => bv (gF ts nest c l).1) (fun _ => [(0,some ([iv (gF ts nest c l).2]))]) :=
 (A6 ts hl _ hs).2 l nest c (Nat.le_refl _) hn0 hn hc0 hc
theorem wT (t:Int):PC Tryz.prog 179 [iv t] (fun r => r = bv (!(decide (1 ≤ t) && decide (t ≤ 4)))):=by
 refine aC Tryz.func179 Tryz.ntmps179 ?_
 repeat' (first|(apply aD;(apply aA (k := 54);rfl;(apply bQ);(rfl);rfl))|refine aE ?_|refine cS ?_|fail)
 all_goals (refine ⟨?_,rfl⟩; simp only [aP,AV.v.injEq,Value.bool.injEq,Value.int.injEq,true_and])
def oL (ts : List Int) : Int := match ts.findIdx? (fun t => !(decide (1 ≤ t) && decide (t ≤ 4))) with | some i => i | none => -1
theorem CK (ts:List Int) (hl:ts.length ≤ 1048576):PC Tryz.prog 216 [sl cI ts,.v (.func (.func 179) #[] #[])] (fun r => r = iv (oL ts)):=by
 refine aC Tryz.func216 Tryz.ntmps216 ?_
 repeat' (first|refine aE ?_|fail)
 refine aL (σ := Nat) [0,1,7] [] (fun k => [(8,iv (k : Int))]) (fun k => []) (fun k => k ≤ ts.length ∧ ∀ i,i < k → 1 ≤ ts[i]! ∧ ts[i]! ≤ 4) (fun k => ts.length - k) (0) ⟨by omega,by omega⟩ ?_
 intro k ⟨hk,hall⟩
 repeat' (first|(apply aD;(apply iR;rfl;rfl;infer_instance;rfl;(apply wT);(rfl);rfl))|refine aE ?_|(refine aM ?_ ?_ <;> intro hc hq <;> try (exfalso;omega))|refine cS ?_|fail)
 ·(refine ⟨?_, rfl⟩; simp only [aP, AV.v.injEq, Value.bool.injEq, Value.int.injEq, true_and])
  have hlt : k < ts.length := by omega
  have : ts.findIdx? (fun t => !(decide (1 ≤ t) && decide (t ≤ 4))) = some k := by
   rw [List.findIdx?_eq_some_iff_getElem]
   refine ⟨hlt,?_,fun j hj => ?_⟩
   ·rw [← aY ts k hlt]; grind
   ·have := hall j hj;rw [aY ts j (by omega)] at this;simp;omega
  simp only [oL,this]
 ·(refine bX (k + 1) (Le.renA []) ?_ ?_)
  ·grind
  ·omega
 ·(refine ⟨?_, rfl⟩; simp only [aP, AV.v.injEq, Value.bool.injEq, Value.int.injEq, true_and])
  have : ts.findIdx? (fun t => !(decide (1 ≤ t) && decide (t ≤ 4))) = none := by
   rw [List.findIdx?_eq_none_iff]
   intro x hx
   obtain ⟨i,hi,rfl⟩ := List.getElem_of_mem hx
   have := hall i (by omega);rw [aY ts i hi] at this;simp;omega
  simp only [oL,this]
theorem Ah (ts:List Int):decide (0 ≤ oL ts) = !(ts.all (fun t => decide (1 ≤ t) && decide (t ≤ 4))):=by
 unfold oL
 split
 ·rename_i i h
  obtain ⟨h1,h2,_⟩ := List.findIdx?_eq_some_iff_getElem.1 h
  have : ts.all (fun t => decide (1 ≤ t) && decide (t ≤ 4)) = false := by
   rw [List.all_eq_false]; exact ⟨ts[i],List.getElem_mem h1,by simp at h2 ⊢; omega⟩
  rw [this]; simp
 ·rename_i h
  rw [List.findIdx?_eq_none_iff] at h
  have : ts.all (fun t => decide (1 ≤ t) && decide (t ≤ 4)) = true := by
   rw [List.all_eq_true]; intro x hx;simpa using h x hx
  rw [this]; rfl
theorem AA (ts:List Int) (hl:ts.length ≤ 1048576):PC Tryz.prog 157 [sl cI ts,.v (.func (.func 179) #[] #[])] (fun r => r = bv (!(ts.all (fun t => decide (1 ≤ t) && decide (t ≤ 4))))):=by
 refine aC Tryz.func157 Tryz.ntmps157 ?_
 repeat' (first|(apply aD;(apply aA (k := 216);rfl;(apply CK <;> (assumption));exact Pur.pf;rfl))|refine aE ?_|refine cS ?_|fail)
 (refine ⟨?_,rfl⟩; simp only [aP,AV.v.injEq,Value.bool.injEq,Value.int.injEq,true_and])
 exact Ah ts
theorem oN (ts:List Int) (hl:ts.length ≤ 1048576):PC Tryz.prog 100 [sl cI ts] (fun r => r = bv (a6 ts)):=by
 refine aC Tryz.func100 Tryz.ntmps100 ?_
 repeat' (first|(apply aD;(apply aA (k := 157);rfl;(apply AA <;> (assumption));exact Pur.pf;rfl))|refine aE ?_|(refine bS ?_ ?_ <;> intro hg hq <;> try (exfalso;omega))|refine cS ?_|fail)
 all_goals (refine ⟨?_,rfl⟩; simp only [aP,AV.v.injEq,Value.bool.injEq,Value.int.injEq,true_and])
 all_goals (unfold a6;grind)
theorem nI (p:Prg) (hl:p.types.length ≤ 1048576) (hs:aK p.body ≤ 100000000):PC Tryz.prog 39 [bE p] (fun r => r = bv (bK p)):=by
 rw [← A2]
 cases ht : a6 p.types
 ·refine aC Tryz.func39 Tryz.ntmps39 ?_
  repeat' (first|(apply aD;(apply aA (k := 100);rfl;(apply oN <;> (assumption));exact Pur.pf;rfl))|refine aE ?_|refine cS ?_|fail)
  all_goals (refine ⟨?_,rfl⟩; simp only [aP,AV.v.injEq,Value.bool.injEq,Value.int.injEq,true_and])
  all_goals grind
 ·refine aC Tryz.func39 Tryz.ntmps39 ?_
  repeat' (first|(apply aD;(first|(apply aA (k := 100);rfl;(apply oN <;> (assumption));exact Pur.pf;rfl)|(apply n7;rfl;rfl;rfl;rfl;(rfl);(apply Ag <;> (first|assumption|omega));rfl;rfl)))|refine aE ?_|refine cS ?_|fail)
  all_goals (refine ⟨?_,rfl⟩; simp only [aP,AV.v.injEq,Value.bool.injEq,Value.int.injEq,true_and])
  all_goals grind
theorem l7 {l:List AL.Stmt}{pts:List Pnt}{m:Nat}{x0 x1:Operand}{i0:Nat}(ha0:ev (lk tsl) x0 = some (sl aH l)) (ha1:ev (lk tsl) x1 = some (.own i0 0 m 5)) (hH0:aN hsl i0 = some (flat bM pts)) (hmc:MC Tryz.prog 122 [sl aH l,.own 0 0 m 5] [(0,some (flat bM pts))] 1 (fun _:Unit => True) (fun _ => .own 1 0 (m + cH l) 5) (fun _ => [(1,some (flat bM (pts ++ dZ pts.length l)))])) (hM:Nat.ble (nidl + 1) aU = true) (hN:Nat.blt d N = true){md':Md}[hmd:MdA md (dV [x0,x1] ++ [.inr i0]) (List.map Sum.inr (List.map Prod.fst ([(nidl,some (flat bM (pts ++ dZ pts.length l))),(i0,none)]:List (Nat × Option (List AV)))) ++ [.inl d]) md'] (kk:RW Tryz.prog N all Q md' rest ⟨(d,.own nidl 0 (m + cH l) 5) :: tsl,eS hsl [(nidl,some (flat bM (pts ++ dZ pts.length l))),(i0,none)],nidl + 1,z0⟩):RW Tryz.prog N all Q md (⟨some d,.call ⟨.value (.func 122),#[x0,x1],tys⟩,ty,pos,af,none⟩ :: rest) ⟨tsl,hsl,nidl,z0⟩:=by
 exact aT (l := [x0,x1]) [i0] 2 [(nidl,some (flat bM (pts ++ dZ pts.length l))),(i0,none)] hmc (avs := [sl aH l,.own i0 0 m 5]) (by simp only [evL,ha0,ha1]) rfl hM hN (md' := md') (hmd := hmd) kk
theorem uQ (mm:Nat) (hmm:mm ≤ 1048576) (pointsOf_ih:∀ l pts m,aK l < mm → m = pts.length → m + cH l ≤ 13000000 → MC Tryz.prog 122 [sl aH l,.own 0 0 m 5] [(0,some (flat bM pts))] 1 (fun _:Unit => True) (fun _ => .own 1 0 (m + cH l) 5) (fun _ => [(1,some (flat bM (pts ++ dZ pts.length l)))])) (l:List AL.Stmt) (pts:List Pnt) (m:Nat) (hs:aK l ≤ mm) (hm:m = pts.length) (hb:m + cH l ≤ 13000000):MC Tryz.prog 122 [sl aH l,.own 0 0 m 5] [(0,some (flat bM pts))] 1 (fun _:Unit => True) (fun _ => .own 1 0 (m + cH l) 5) (fun _ => [(1,some (flat bM (pts ++ dZ pts.length l)))]):=by
 have hlen := cN l
 subst hm
 refine aQ Tryz.func122 Tryz.ntmps122 ?_
 repeat' (first|refine aE ?_|fail)
 refine AW.le ?_ (Le.mv (d := 1) (i := 0) (cs := flat bM pts) rfl rfl (by decide))
 refine aL (σ := Nat × List Pnt × Nat) [9,10] [] (fun k => [(11,iv (k.1 : Int)),(1,.own 1 0 k.2.2 5)]) (fun k => [(1,some (flat bM k.2.1))]) (fun k => k.1 ≤ l.length ∧ k.2.1 = pts ++ dZ pts.length (l.take k.1) ∧ k.2.2 = k.2.1.length ∧ k.2.2 = pts.length + cH (l.take k.1)) (fun k => l.length - k.1) (0,pts,pts.length) ⟨by omega,by simp [dZ],rfl,by simp [cH]⟩ ?_
 rintro ⟨k,xs,m1⟩ ⟨hk,hxs,hm1,hm2⟩
 dsimp only at hk hxs hm1 hm2 ⊢
 have hck := dM l k
 have hct := hO l[k]!
 have hnt := xS l k
 have n9 := DI l[k]!
 have n10 := xB l[k]!
 have n1 := CQ l[k]!
 repeat' (first|(apply aD;first|(apply aJ (t := _);rfl;rfl;rfl;(first|exact (rfl:_=some [_])|exact (rfl:_=some [_,_])|exact (rfl:_=some [_,_,_,_,_]));rfl;rfl)|(apply l7;rfl;rfl;(rfl);(apply pointsOf_ih <;> (first|omega|(simp only [fP] <;> omega)));rfl;rfl))|refine aE ?_|(refine aM ?_ ?_ <;> intro hc hq <;> try (exfalso;omega))|fail)
 ·(refine bX (k + 1, _, _) (Le.renA [(1, 8)]) ?_ ?_)
  ·dsimp only
   rw [r9 hm1,rK hm1,qZ (by rw [a9,hm1]),rV (by rw [a9,hm1]),dN l _ k (by omega),dE l k (by omega),e7,if_pos hq,n9 hq]
   refine ⟨by omega,?_,by simp [a9]; omega,by omega⟩
   have e1 : xs.length = pts.length + cH (l.take k) := by omega
   rw [← List.append_assoc pts,← hxs,← e1]
   simp only [List.append_assoc,List.length_append,List.length_cons,List.length_nil,a9,hm1,Nat.zero_add]
   clear pointsOf_ih hxs hck hnt n9 n10 n1
   grind
  ·dsimp only;omega
 ·(refine bX (k + 1, _, _) (Le.renA [(1, 8)]) ?_ ?_)
  ·dsimp only
   rw [xW hm1,xH hm1,dN l _ k (by omega),dE l k (by omega),e7,if_neg (by omega),if_pos hq,n10 hq]
   refine ⟨by omega,?_,by simp [a9]; omega,by omega⟩
   have e1 : xs.length = pts.length + cH (l.take k) := by omega
   rw [← List.append_assoc pts,← hxs,← e1]
   simp only [List.append_assoc,List.length_append,List.length_cons,List.length_nil,a9,hm1,Nat.zero_add]
   clear pointsOf_ih hxs hck hnt n9 n10 n1
   grind
  ·dsimp only;omega
 ·(refine bX (k + 1, _, _) (Le.renA [(1, 5)]) ?_ ?_)
  ·dsimp only
   rw [dN l _ k (by omega),dE l k (by omega),e7,if_neg ‹¬l[k]!.op = 9›,if_neg hq,n1 ‹¬l[k]!.op = 9› hq]
   refine ⟨by omega,?_,by simp [a9]; omega,by omega⟩
   have e1 : xs.length = pts.length + cH (l.take k) := by omega
   rw [← List.append_assoc pts,← hxs,← e1,hm1]
  ·dsimp only;omega
 ·refine aB rfl ?_
  have e2 : l.take k = l := List.take_of_length_le (by omega)
  rw [e2] at hxs hm2
  refine aO () trivial ?_ ⟨sE ?_,trivial⟩
  ·simp only [aP]; rw [hm2]
  ·rw [hxs]
theorem xY (l:List AL.Stmt) (pts:List Pnt) (m:Nat) (hs:aK l ≤ 1048576) (hm:m = pts.length) (hb:m + cH l ≤ 13000000):MC Tryz.prog 122 [sl aH l,.own 0 0 m 5] [(0,some (flat bM pts))] 1 (fun _:Unit => True) (fun _ => .own 1 0 (m + cH l) 5) (fun _ => [(1,some (flat bM (pts ++ dZ pts.length l)))]):=by
 have h : ∀ (mm : Nat), mm ≤ 1048576 → ∀ l pts m, aK l ≤ mm → m = pts.length → m + cH l ≤ 13000000 → MC Tryz.prog 122 [sl aH l, .own 0 0 m 5] [(0, some (flat bM pts))] 1 (fun _ : Unit => True) (fun _ => .own 1 0 (m + cH l) 5) (fun _ => [(1, some (flat bM (pts ++ dZ pts.length l)))]) := by
  intro mm
  induction mm using Nat.strongRecOn with
  | ind mm ih =>
   intro h0 l pts m h1 h2 h3
   exact uQ mm h0 (fun l' pts' m' g1 g2 g3 => ih _ g1 (by omega) l' pts' m' (Nat.le_refl _) g2 g3) l pts m h1 h2 h3
 exact h _ hs l pts m (Nat.le_refl _) hm hb
theorem rS {l:List AL.Stmt}{x0 x1:Operand}(ha0:ev (lk tsl) x0 = some (sl aH l)) (ha1:ev (lk tsl) x1 = some (.v (.slice none 0 0))) (hmc:MC Tryz.prog 122 [sl aH l,.v (.slice none 0 0)] [] 0 (fun _:Unit => True) (fun _ => .own 0 0 (cH l) 5) (fun _ => [(0,some (flat bM (dZ 0 l)))])) (hM:Nat.ble (nidl + 1) aU = true) (hN:Nat.blt d N = true){md':Md}[hmd:MdA md (dV [x0,x1] ++ []) (List.map Sum.inr (List.map Prod.fst ([(nidl,some (flat bM (dZ 0 l)))]:List (Nat × Option (List AV)))) ++ [.inl d]) md'] (kk:RW Tryz.prog N all Q md' rest ⟨(d,.own nidl 0 (cH l) 5) :: tsl,eS hsl [(nidl,some (flat bM (dZ 0 l)))],nidl + 1,z0⟩):RW Tryz.prog N all Q md (⟨some d,.call ⟨.value (.func 122),#[x0,x1],tys⟩,ty,pos,af,none⟩ :: rest) ⟨tsl,hsl,nidl,z0⟩:=by
 exact aT (l := [x0,x1]) [] 1 [(nidl,some (flat bM (dZ 0 l)))] hmc (avs := [sl aH l,.v (.slice none 0 0)]) (by simp only [evL,ha0,ha1]) rfl hM hN (md' := md') (hmd := hmd) kk
theorem sT (l:List AL.Stmt) (hs:aK l ≤ 1048576):MC Tryz.prog 122 [sl aH l,.v (.slice none 0 0)] [] 0 (fun _:Unit => True) (fun _ => .own 0 0 (cH l) 5) (fun _ => [(0,some (flat bM (dZ 0 l)))]):=by
 have hlen := cN l
 have hn2 := gT l
 refine aQ Tryz.func122 Tryz.ntmps122 ?_
 repeat' (first|refine aE ?_|fail)
 refine AW.le ?_ (Le.nilOwn (d := 1) 5 rfl (by decide))
 refine aL (σ := Nat × List Pnt × Nat) [9,10] [] (fun k => [(11,iv (k.1 : Int)),(1,.own 0 0 k.2.2 5)]) (fun k => [(0,some (flat bM k.2.1))]) (fun k => k.1 ≤ l.length ∧ k.2.1 = dZ 0 (l.take k.1) ∧ k.2.2 = k.2.1.length ∧ k.2.2 = cH (l.take k.1)) (fun k => l.length - k.1) (0,[],0) ⟨by omega,by simp [dZ],rfl,by simp [cH]⟩ ?_
 rintro ⟨k,xs,m1⟩ ⟨hk,hxs,hm1,hm2⟩
 dsimp only at hk hxs hm1 hm2 ⊢
 have hck := dM l k
 have hct := hO l[k]!
 have hnt := xS l k
 have n9 := DI l[k]!
 have n10 := xB l[k]!
 have n1 := CQ l[k]!
 repeat' (first|(apply aD;first|(apply aJ (t := _);rfl;rfl;rfl;(first|exact (rfl:_=some [_])|exact (rfl:_=some [_,_])|exact (rfl:_=some [_,_,_,_,_]));rfl;rfl)|(apply l7;rfl;rfl;(rfl);(apply xY <;> (first|omega|(simp only [fP] <;> omega)));rfl;rfl))|refine aE ?_|(refine aM ?_ ?_ <;> intro hc hq <;> try (exfalso;omega))|fail)
 ·(refine bX (k + 1, _, _) (Le.renA [(0, 7)]) ?_ ?_)
  ·dsimp only
   rw [r9 hm1,rK hm1,qZ (by rw [a9,hm1]),rV (by rw [a9,hm1]),dN l _ k (by omega),dE l k (by omega),e7,if_pos hq,n9 hq]
   refine ⟨by omega,?_,by simp [a9]; omega,by omega⟩
   have e1 : cH (l.take k) = xs.length := by omega
   rw [Nat.zero_add,e1]
   rw [← hxs]
   simp only [List.append_assoc,List.length_append,List.length_cons,List.length_nil,a9,hm1,Nat.zero_add]
   clear hxs hck hnt n9 n10 n1
   grind
  ·dsimp only;omega
 ·(refine bX (k + 1, _, _) (Le.renA [(0, 7)]) ?_ ?_)
  ·dsimp only
   rw [xW hm1,xH hm1,dN l _ k (by omega),dE l k (by omega),e7,if_neg (by omega),if_pos hq,n10 hq]
   refine ⟨by omega,?_,by simp [a9]; omega,by omega⟩
   have e1 : cH (l.take k) = xs.length := by omega
   rw [Nat.zero_add,e1]
   rw [← hxs]
   simp only [List.append_assoc,List.length_append,List.length_cons,List.length_nil,a9,hm1,Nat.zero_add]
   clear hxs hck hnt n9 n10 n1
   grind
  ·dsimp only;omega
 ·(refine bX (k + 1, _, _) (Le.renA [(0, 4)]) ?_ ?_)
  ·dsimp only
   rw [dN l _ k (by omega),dE l k (by omega),e7,if_neg ‹¬l[k]!.op = 9›,if_neg hq,n1 ‹¬l[k]!.op = 9› hq]
   refine ⟨by omega,?_,by simp [a9]; omega,by omega⟩
   have e1 : cH (l.take k) = xs.length := by omega
   rw [Nat.zero_add,e1]
   rw [← hxs,hm1]
  ·dsimp only;omega
 ·refine aB rfl ?_
  have e2 : l.take k = l := List.take_of_length_le (by omega)
  rw [e2] at hxs hm2
  refine aO () trivial ?_ ⟨sE ?_,trivial⟩
  ·simp only [aP]; rw [hm2]
  ·rw [hxs]
theorem oM (p:Prg) (hs:aK p.body ≤ 1048576):PC Tryz.prog 80 [bE p] (fun r => r = sl bM (aR p)):=by
 have hn := gT p.body
 refine aC Tryz.func80 Tryz.ntmps80 ?_
 repeat' (first|(apply aD;first|(apply aJ (t := _);rfl;rfl;rfl;(exact (rfl:_=some [_,_,_,_,_]));rfl;rfl)|(apply rS;rfl;rfl;(apply sT <;> (assumption));rfl;rfl))|refine aE ?_|fail)
 (refine aS (Le.frzD (d := 2) (i := 3) rfl rfl) ?_; refine aB rfl ?_)
 refine ⟨?_,?_⟩
 ·simp only [aP,sl,aR,List.length_append,List.length_cons,List.length_nil,a9,Nat.zero_add]
 ·(exact bZ _ _)
theorem tB (p:Prg) (hl:p.types.length ≤ 1048576) (hs:aK p.body ≤ 1048576):PC Tryz.prog 28 [bE p] (fun r => r = sl bM (if bK p = true then aR p else [])):=by
 refine aC Tryz.func28 Tryz.ntmps28 ?_
 repeat' (first|(apply aD;(first|(apply aA (k := 39);rfl;(apply nI <;> (first|assumption|omega));exact Pur.pf;rfl)|(apply aA (k := 80);rfl;(apply oM <;> (assumption));exact Pur.pf;rfl)))|refine aE ?_|(refine aM ?_ ?_ <;> intro hc hq <;> try (exfalso;omega))|fail)
 ·(refine aS (Le.nilImm (d := 2) rfl) ?_; refine aB rfl ?_)
  refine ⟨?_,(by (rfl))⟩
  simp only [hq,aP,Bool.false_eq_true,if_false]; rfl
 ·refine aB rfl ⟨?_, (by (exact bZ _ _))⟩
  simp only [hq,aP,if_true]
theorem tC {l:List AL.Stmt}{pts:List Pnt}{m:Nat}{x0 x1:Operand}{i0:Nat}(ha0:ev (lk tsl) x0 = some (.own i0 0 m 5)) (ha1:ev (lk tsl) x1 = some (sl aH l)) (hH0:aN hsl i0 = some (flat bM pts)) (hmc:MC Tryz.prog 130 [.own 0 0 m 5,sl aH l] [(0,some (flat bM pts))] 1 (fun _:Unit => True) (fun _ => .own 1 0 (m + cH l) 5) (fun _ => [(1,some (flat bM (pts ++ dZ pts.length l)))])) (hM:Nat.ble (nidl + 1) aU = true) (hN:Nat.blt d N = true){md':Md}[hmd:MdA md (dV [x0,x1] ++ [.inr i0]) (List.map Sum.inr (List.map Prod.fst ([(nidl,some (flat bM (pts ++ dZ pts.length l))),(i0,none)]:List (Nat × Option (List AV)))) ++ [.inl d]) md'] (kk:RW Tryz.prog N all Q md' rest ⟨(d,.own nidl 0 (m + cH l) 5) :: tsl,eS hsl [(nidl,some (flat bM (pts ++ dZ pts.length l))),(i0,none)],nidl + 1,z0⟩):RW Tryz.prog N all Q md (⟨some d,.call ⟨.value (.func 130),#[x0,x1],tys⟩,ty,pos,af,none⟩ :: rest) ⟨tsl,hsl,nidl,z0⟩:=by
 exact aT (l := [x0,x1]) [i0] 2 [(nidl,some (flat bM (pts ++ dZ pts.length l))),(i0,none)] hmc (avs := [.own i0 0 m 5,sl aH l]) (by simp only [evL,ha0,ha1]) rfl hM hN (md' := md') (hmd := hmd) kk
theorem Cv (mm:Nat) (hmm:mm ≤ 1048576) (l2Add_ih:∀ l pts m,aK l < mm → m = pts.length → m + cH l ≤ 13000000 → MC Tryz.prog 130 [.own 0 0 m 5,sl aH l] [(0,some (flat bM pts))] 1 (fun _:Unit => True) (fun _ => .own 1 0 (m + cH l) 5) (fun _ => [(1,some (flat bM (pts ++ dZ pts.length l)))])) (l:List AL.Stmt) (pts:List Pnt) (m:Nat) (hs:aK l ≤ mm) (hm:m = pts.length) (hb:m + cH l ≤ 13000000):MC Tryz.prog 130 [.own 0 0 m 5,sl aH l] [(0,some (flat bM pts))] 1 (fun _:Unit => True) (fun _ => .own 1 0 (m + cH l) 5) (fun _ => [(1,some (flat bM (pts ++ dZ pts.length l)))]):=by
 have hlen := cN l
 subst hm
 refine aQ Tryz.func130 Tryz.ntmps130 ?_
 repeat' (first|refine aE ?_|fail)
 refine AW.le ?_ (Le.mv (d := 0) (i := 0) (cs := flat bM pts) rfl rfl (by decide))
 refine aL (σ := Nat × List Pnt × Nat) [1] [] (fun k => [(5,iv (k.1 : Int)),(0,.own 1 0 k.2.2 5)]) (fun k => [(1,some (flat bM k.2.1))]) (fun k => k.1 ≤ l.length ∧ k.2.1 = pts ++ dZ pts.length (l.take k.1) ∧ k.2.2 = k.2.1.length ∧ k.2.2 = pts.length + cH (l.take k.1)) (fun k => l.length - k.1) (0,pts,pts.length) ⟨by omega,by simp [dZ],rfl,by simp [cH]⟩ ?_
 rintro ⟨k,xs,m1⟩ ⟨hk,hxs,hm1,hm2⟩
 dsimp only at hk hxs hm1 hm2 ⊢
 have hck := dM l k
 have hct := hO l[k]!
 have hnt := xS l k
 have n9 := DI l[k]!
 have n10 := xB l[k]!
 have n1 := CQ l[k]!
 repeat' (first|(apply aD;first|(apply aJ (t := _);rfl;rfl;rfl;(first|exact (rfl:_=some [_])|exact (rfl:_=some [_,_])|exact (rfl:_=some [_,_,_,_,_]));rfl;rfl)|(apply tC;rfl;rfl;(rfl);(apply l2Add_ih <;> (first|omega|(simp only [fP] <;> omega)));rfl;rfl))|refine aE ?_|(refine aM ?_ ?_ <;> intro hc hq <;> try (exfalso;omega))|fail)
 ·(refine bX (k + 1, _, _) (Le.renA [(1, 8)]) ?_ ?_)
  ·dsimp only
   rw [qZ (by rw [a9,hm1]),rV (by rw [a9,hm1]),r9 hm1,rK hm1,dN l _ k (by omega),dE l k (by omega),e7,if_pos hq,n9 hq]
   refine ⟨by omega,?_,by simp [a9]; omega,by omega⟩
   have e1 : xs.length = pts.length + cH (l.take k) := by omega
   rw [← List.append_assoc pts,← hxs,← e1]
   simp only [List.append_assoc,List.length_append,List.length_cons,List.length_nil,a9,hm1,Nat.zero_add]
   clear l2Add_ih hxs hck hnt n9 n10 n1
   grind
  ·dsimp only;omega
 ·(refine bX (k + 1, _, _) (Le.renA [(1, 8)]) ?_ ?_)
  ·dsimp only
   rw [xW hm1,xH hm1,dN l _ k (by omega),dE l k (by omega),e7,if_neg (by omega),if_pos hq,n10 hq]
   refine ⟨by omega,?_,by simp [a9]; omega,by omega⟩
   have e1 : xs.length = pts.length + cH (l.take k) := by omega
   rw [← List.append_assoc pts,← hxs,← e1]
   simp only [List.append_assoc,List.length_append,List.length_cons,List.length_nil,a9,hm1,Nat.zero_add]
   clear l2Add_ih hxs hck hnt n9 n10 n1
   grind
  ·dsimp only;omega
 ·(refine bX (k + 1, _, _) (Le.renA [(1, 5)]) ?_ ?_)
  ·dsimp only
   rw [dN l _ k (by omega),dE l k (by omega),e7,if_neg ‹¬l[k]!.op = 9›,if_neg hq,n1 ‹¬l[k]!.op = 9› hq]
   refine ⟨by omega,?_,by simp [a9]; omega,by omega⟩
   have e1 : xs.length = pts.length + cH (l.take k) := by omega
   rw [← List.append_assoc pts,← hxs,← e1,hm1]
  ·dsimp only;omega
 ·refine aB rfl ?_
  have e2 : l.take k = l := List.take_of_length_le (by omega)
  rw [e2] at hxs hm2
  refine aO () trivial ?_ ⟨sE ?_,trivial⟩
  ·simp only [aP]; rw [hm2]
  ·rw [hxs]
theorem FG (l:List AL.Stmt) (pts:List Pnt) (m:Nat) (hs:aK l ≤ 1048576) (hm:m = pts.length) (hb:m + cH l ≤ 13000000):MC Tryz.prog 130 [.own 0 0 m 5,sl aH l] [(0,some (flat bM pts))] 1 (fun _:Unit => True) (fun _ => .own 1 0 (m + cH l) 5) (fun _ => [(1,some (flat bM (pts ++ dZ pts.length l)))]):=by
 have h : ∀ (mm : Nat), mm ≤ 1048576 → ∀ l pts m, aK l ≤ mm → m = pts.length → m + cH l ≤ 13000000 → MC Tryz.prog 130 [.own 0 0 m 5, sl aH l] [(0, some (flat bM pts))] 1 (fun _ : Unit => True) (fun _ => .own 1 0 (m + cH l) 5) (fun _ => [(1, some (flat bM (pts ++ dZ pts.length l)))]) := by
  intro mm
  induction mm using Nat.strongRecOn with
  | ind mm ih =>
   intro h0 l pts m h1 h2 h3
   exact Cv mm h0 (fun l' pts' m' g1 g2 g3 => ih _ g1 (by omega) l' pts' m' (Nat.le_refl _) g2 g3) l pts m h1 h2 h3
 exact h _ hs l pts m (Nat.le_refl _) hm hb
theorem j1 (p:Prg) (hs:aK p.body ≤ 1048576):PC Tryz.prog 132 [bE p] (fun r => r = sl bM (aR p)):=by
 have hn := gT p.body
 have e0 : ([] : List AV) = flat bM [] := rfl
 refine aC Tryz.func132 Tryz.ntmps132 ?_
 repeat' (first|(apply aD;(apply tC;rfl;rfl;(exact A5 rfl);(apply FG <;> (first|assumption|omega|(simp only [fP] <;> omega)));rfl;rfl))|refine aE ?_|fail)
 (refine aS (Le.frzD (d := 2) (i := 4) rfl rfl) ?_; refine aB rfl ?_)
 refine ⟨?_,(by (exact bZ _ _))⟩
 simp only [aP,sl,aR,List.length_append,List.length_cons,List.length_nil,a9,Nat.zero_add,List.nil_append]
theorem yM (ts:List Int) (bd:List AL.Stmt) (pts:List Pnt) (v:Int) (h:0 ≤ v ∧ v < ts.length):PC Tryz.prog 199 [aG ts bd pts,iv v] (fun r => r = bv (D2 ts[v.toNat]!)):=by
 refine aC Tryz.func199 Tryz.ntmps199 ?_
 repeat' (first|refine aE ?_|(refine bS ?_ ?_ <;> intro hg hq <;> try (exfalso;omega))|refine cS ?_|fail)
 all_goals (refine ⟨?_,rfl⟩; simp only [aP,AV.v.injEq,Value.bool.injEq,Value.int.injEq,true_and])
 all_goals grind [D2]
theorem H5 (ts:List Int) (bd:List AL.Stmt) (pts:List Pnt) (x:Pnt) (v:Int) (h:0 ≤ v ∧ v < ts.length):PC Tryz.prog 244 [aG ts bd pts,dK x,iv v] (fun r => r = iv (bB ts x v)):=by
 refine aC Tryz.func244 Tryz.ntmps244 ?_
 repeat' (first|(apply aD;(apply aA (k := 199);rfl;(apply yM <;> (assumption));exact Pur.pf;rfl))|refine aE ?_|(refine aM ?_ ?_ <;> intro hc hq <;> try (exfalso;omega))|(refine bS ?_ ?_ <;> intro hg hq <;> try (exfalso;omega))|refine cS ?_|fail)
 all_goals (refine ⟨?_,rfl⟩; simp only [aP,AV.v.injEq,Value.bool.injEq,Value.int.injEq,true_and])
 all_goals grind [D2,bB]
theorem Gi (x:Pnt):PC Tryz.prog 143 [dK x] (fun r => r = iv (bC x)):=by
 refine aC Tryz.func143 Tryz.ntmps143 ?_
 repeat' (first|refine aE ?_|(refine aM ?_ ?_ <;> intro hc hq <;> try (exfalso;omega))|refine cS ?_|fail)
 all_goals (refine ⟨?_,rfl⟩; simp only [aP,AV.v.injEq,Value.bool.injEq,Value.int.injEq,true_and])
 all_goals grind [bC]
def DP (xs : List Int) (v : Int) : Int := match xs.findIdx? (fun t => decide (t = v)) with | some i => i | none => -1
theorem Ed (xs:List Int) (v:Int) (hl:xs.length ≤ 1048576):PC Tryz.prog 119 [sl cI xs,iv v] (fun r => r = iv (DP xs v)):=by
 refine aC Tryz.func119 Tryz.ntmps119 ?_
 repeat' (first|refine aE ?_|fail)
 refine aL (σ := Nat) [0,1,7] [] (fun k => [(8,iv (k : Int))]) (fun k => []) (fun k => k ≤ xs.length ∧ ∀ i,i < k → xs[i]! ≠ v) (fun k => xs.length - k) (0) ⟨by omega,by omega⟩ ?_
 intro k ⟨hk,hall⟩
 repeat' (first|refine aE ?_|(refine aM ?_ ?_ <;> intro hc hq <;> try (exfalso;omega))|refine cS ?_|fail)
 ·(refine ⟨?_, rfl⟩; simp only [aP, AV.v.injEq, Value.bool.injEq, Value.int.injEq, true_and])
  have hlt : k < xs.length := by omega
  have : xs.findIdx? (fun t => decide (t = v)) = some k := by
   rw [List.findIdx?_eq_some_iff_getElem]
   refine ⟨hlt,?_,fun j hj => ?_⟩
   ·rw [← aY xs k hlt]; grind
   ·have := hall j hj;rw [aY xs j (by omega)] at this;simpa using this
  simp only [DP,this]
 ·(refine bX (k + 1) (Le.renA []) ?_ ?_)
  ·grind
  ·omega
 ·(refine ⟨?_, rfl⟩; simp only [aP, AV.v.injEq, Value.bool.injEq, Value.int.injEq, true_and])
  have : xs.findIdx? (fun t => decide (t = v)) = none := by
   rw [List.findIdx?_eq_none_iff]
   intro x hx
   obtain ⟨i,hi,rfl⟩ := List.getElem_of_mem hx
   have := hall i (by omega);rw [aY xs i hi] at this;simpa using this
  simp only [DP,this]
theorem E2 (xs:List Int) (v:Int):decide (0 ≤ DP xs v) = decide (v ∈ xs):=by
 unfold DP
 split
 ·rename_i i h
  obtain ⟨h1,h2,_⟩ := List.findIdx?_eq_some_iff_getElem.1 h
  simp only [decide_eq_true_eq] at h2
  have : v ∈ xs := by rw [← h2]; exact List.getElem_mem h1
  simp [this]
 ·rename_i h
  rw [List.findIdx?_eq_none_iff] at h
  have : v ∉ xs := fun hm => by have := h v hm;simp at this
  simp [this]
theorem xP (xs:List Int) (v:Int) (hl:xs.length ≤ 1048576):PC Tryz.prog 56 [sl cI xs,iv v] (fun r => r = bv (decide (v ∈ xs))):=by
 refine aC Tryz.func56 Tryz.ntmps56 ?_
 repeat' (first|(apply aD;(apply aA (k := 119);rfl;(apply Ed <;> (assumption));exact Pur.pf;rfl))|refine aE ?_|refine cS ?_|fail)
 (refine ⟨?_,rfl⟩; simp only [aP,AV.v.injEq,Value.bool.injEq,Value.int.injEq,true_and])
 exact E2 xs v
theorem zN (ts:List Int) (bd:List AL.Stmt) (pts:List Pnt) (x:Pnt) (us:List Int) (h:ts.length ≤ 6) (hu:us.length ≤ 1000):PC Tryz.prog 207 [aG ts bd pts,dK x,sl cI us] (fun r => r = iv (wS ts x us:Nat)):=by
 refine aC Tryz.func207 Tryz.ntmps207 ?_
 repeat' (first|refine aE ?_|fail)
 refine aL (σ := Nat × Nat) [0,2,4,14] [0] (fun k => [(15,iv (k.1 : Int)),(7,iv (k.2 : Int))]) (fun k => []) (fun k => k.1 ≤ ts.length ∧ k.2 = dG (fun v => decide (bB ts x v ∈ us)) k.1) (fun k => ts.length - k.1) (0,0) ⟨by omega,rfl⟩ ?_
 rintro ⟨k,A⟩ ⟨hk,hA⟩
 dsimp only at hk hA ⊢
 have hsm : Sm A := hA ▸ cA (by omega)
 repeat' (first|(apply aD;first|(apply yN;rfl;rfl;infer_instance;omega;rfl;(case' kk => intro hsm))|(first|(apply aA (k := 56);rfl;(apply xP <;> (omega));exact Pur.pf;rfl)|(apply aA (k := 244);rfl;(apply H5 <;> (omega));exact Pur.pf;rfl)))|refine aE ?_|(refine aM ?_ ?_ <;> intro hc hq <;> try (exfalso;omega))|refine cS ?_|fail)
 ·(refine bX (k + 1, _) (Le.renA [(0, 0)]) ?_ ?_)
  ·dsimp only
   rw [hA]
   exact ⟨by omega,uI _ _ (by simpa using hq)⟩
  ·dsimp only;omega
 ·(refine bX (k + 1, _) (Le.renA [(0, 0)]) ?_ ?_)
  ·dsimp only
   rw [hA]
   exact ⟨by omega,tP _ _ (by simpa using hq)⟩
  ·dsimp only;omega
 ·(refine ⟨?_, rfl⟩; simp only [aP, AV.v.injEq, Value.bool.injEq, Value.int.injEq, true_and])
  rw [hA,show k = ts.length by omega]; rfl
theorem gE (ts:List Int) (bd:List AL.Stmt) (pts:List Pnt) (x:Pnt) (h:ts.length ≤ 6):PC Tryz.prog 158 [aG ts bd pts,dK x] (fun r => r = iv (wS ts x [1,2,3]:Nat)):=by
 refine aC Tryz.func158 Tryz.ntmps158 ?_
 repeat' (first|(apply aD;first|(apply aJ (t := _);rfl;rfl;rfl;(exact (rfl:_=some [_,_,_]));rfl;rfl)|(apply aA (k := 207);rfl;(apply zN (us := [1,2,3]) <;> (first|assumption|decide));exact Pur.pf;rfl))|refine aE ?_|refine cS ?_|fail)
 (refine ⟨?_,rfl⟩; simp only [aP,AV.v.injEq,Value.bool.injEq,Value.int.injEq,true_and])
theorem Ek (ts:List Int) (bd:List AL.Stmt) (pts:List Pnt) (x:Pnt) (h:ts.length ≤ 6):PC Tryz.prog 142 [aG ts bd pts,dK x] (fun r => r = iv (wS ts x [2]:Nat)):=by
 refine aC Tryz.func142 Tryz.ntmps142 ?_
 repeat' (first|(apply aD;first|(apply aJ (t := _);rfl;rfl;rfl;exact (rfl:_=some [_]);rfl;rfl)|(apply aA (k := 207);rfl;(apply zN (us := [2]) <;> (first|assumption|decide));exact Pur.pf;rfl))|refine aE ?_|refine cS ?_|fail)
 (refine ⟨?_,rfl⟩; simp only [aP,AV.v.injEq,Value.bool.injEq,Value.int.injEq,true_and])
theorem fK (A:Nat) (hA:Sm A):PC Tryz.prog 120 [iv (A:Int)] (fun r => r = sl cI (bF A)):=by
 refine aC Tryz.func120 Tryz.ntmps120 ?_
 repeat' (first|refine aE ?_|fail)
 refine AW.le ?_ (Le.nilOwn (d := 3) 1 rfl (by decide))
 refine aL (σ := Nat × List Int × Nat) [0] [] (fun k => [(4,iv (k.1 : Int)),(3,.own 0 0 k.2.2 1)]) (fun k => [(0,some (flat cI k.2.1))]) (fun k => k.1 ≤ 62 ∧ k.2.1 = ((List.range k.1).filter (A.testBit ·)).map (fun v : Nat => (v : Int)) ∧ k.2.2 = k.2.1.length ∧ k.2.2 ≤ k.1) (fun k => 62 - k.1) (0,[],0) ⟨by omega,rfl,rfl,Nat.le_refl _⟩ ?_
 rintro ⟨k,u,m⟩ ⟨hk,hu,hm,hmk⟩
 dsimp only at hk hu hm hmk ⊢
 repeat' (first|(apply aD;(apply aJ (t := _);rfl;rfl;rfl;exact (rfl:_=some [_]);rfl;rfl))|refine aE ?_|(refine aM ?_ ?_ <;> intro hc hq <;> try (exfalso;omega))|fail)
 ·have hlt := x4 hA (show 0 < ((A >>> k : Nat) : Int) by assumption)
  (refine bX (k + 1,_,_) (Le.renA [(0,2)]) ?_ ?_)
  ·dsimp only
   exact ⟨by omega,qJ hq hu,by simp;omega,by omega⟩
  ·dsimp only;omega
 ·have hlt := x4 hA (show 0 < ((A >>> k : Nat) : Int) by assumption)
  (refine bX (k + 1,u,m) (Le.renA [(0,0)]) ?_ ?_)
  ·dsimp only
   exact ⟨by omega,qL hq hu,hm,by omega⟩
  ·dsimp only;omega
 ·(refine aS (Le.frzD (d := 2) (i := 0) rfl rfl) ?_; refine aB rfl ?_)
  refine ⟨?_,(by (exact bZ _ _))⟩
  simp only [aP,sl]
  rw [lC (k := k) (fun v hv => Dl hq v hv) (by omega) hA,← hu,← hm]
theorem wE (A:Nat) (hA:Sm A):PC Tryz.prog 76 [.v (.int .u64 (A:Int))] (fun r => r = sl cI (bF A)):=by
 refine aC Tryz.func76 Tryz.ntmps76 ?_
 repeat' (first|refine aE ?_|fail)
 refine AW.le ?_ (Le.nilOwn (d := 3) 1 rfl (by decide))
 refine aL (σ := Nat × List Int × Nat) [0] [] (fun k => [(5,iv (k.1 : Int)),(3,.own 0 0 k.2.2 1)]) (fun k => [(0,some (flat cI k.2.1))]) (fun k => k.1 ≤ 64 ∧ k.2.1 = ((List.range k.1).filter (A.testBit ·)).map (fun v : Nat => (v : Int)) ∧ k.2.2 = k.2.1.length ∧ k.2.2 ≤ k.1) (fun k => 64 - k.1) (0,[],0) ⟨by omega,rfl,rfl,Nat.le_refl _⟩ ?_
 rintro ⟨k,u,m⟩ ⟨hk,hu,hm,hmk⟩
 dsimp only at hk hu hm hmk ⊢
 repeat' (first|(apply aD;(apply aJ (t := _);rfl;rfl;rfl;exact (rfl:_=some [_]);rfl;rfl))|refine aE ?_|(refine aM ?_ ?_ <;> intro hc hq <;> try (exfalso;omega))|fail)
 ·(refine bX (k + 1, _, _) (Le.renA [(0, 2)]) ?_ ?_)
  ·dsimp only
   exact ⟨by omega,qJ hq hu,by simp;omega,by omega⟩
  ·dsimp only;omega
 ·(refine bX (k + 1, u, m) (Le.renA [(0, 0)]) ?_ ?_)
  ·dsimp only
   exact ⟨by omega,qL hq hu,hm,by omega⟩
  ·dsimp only;omega
 ·(refine aS (Le.frzD (d := 2) (i := 0) rfl rfl) ?_; refine aB rfl ?_)
  refine ⟨?_,(by (exact bZ _ _))⟩
  simp only [aP,sl]
  rw [lC (k := k) (fun v hv => Nat.testBit_lt_two_pow (Nat.lt_of_lt_of_le hA.pf (Nat.pow_le_pow_right (by decide) (by omega)))) (by omega) hA,← hu,← hm]
theorem qD (p:Prg) (hl:p.types.length ≤ 1048576) (hs:aK p.body ≤ 1048576):PC Tryz.prog 72 [bE p,.v (.slice none 0 0)] (fun r => r = if bK p = true then .tup [aG p.types p.body (aR p),bv true] else .tup [.v (.pointer none),bv false]):=by
 have hpl := kG p
 have hnl := gT p.body
 refine aC Tryz.func72 Tryz.ntmps72 ?_
 repeat' (first|(apply aD;(first|(apply aA (k := 39);rfl;(apply nI <;> (first|assumption|omega));exact Pur.pf;rfl)|(apply aA (k := 80);rfl;(apply oM <;> (assumption));exact Pur.pf;rfl)))|refine aE ?_|(refine aM ?_ ?_ <;> intro hc hq <;> try (exfalso;omega))|refine cE ?_|fail)
 ·refine aB rfl ⟨?_, (by (rfl))⟩
  rw [if_neg (by simp [hq])]; rfl
 ·refine aL (σ := Unit) [6, 17, 18] [1] (fun _u => [(19, iv 0)]) (fun _u => []) (fun _u => True) (fun _u => 0) () trivial ?_
  intro _ _
  repeat' (first|refine aE ?_|fail)
  refine aS (Le.frzP (d := 4) (i := 1) rfl rfl) ?_
  refine aB rfl ⟨?_,(by show (AV.tup [aG p.types p.body (aR p),bv true]).pur = true;exact PurV.pf)⟩
  rw [if_pos hq]; rfl
instance : BoT Tryz.prog 4:=⟨by kernel_rfl⟩
theorem ET (x:Pnt):PC Tryz.prog 196 [dK x] (fun r => r = iv (bC x)):=by
 refine aC Tryz.func196 Tryz.ntmps196 ?_
 repeat' (first|refine aE ?_|(refine aM ?_ ?_ <;> intro hc hq <;> try (exfalso;omega))|(refine bS ?_ ?_ <;> intro hg hq <;> try (exfalso;omega))|refine cS ?_|fail)
 all_goals (refine ⟨?_,rfl⟩; simp only [aP,AV.v.injEq,Value.bool.injEq,Value.int.injEq,true_and])
 all_goals grind [bC]
theorem E0 (ts:List Int) (x:Pnt) (v:Int) (h:0 ≤ v ∧ v < ts.length):PC Tryz.prog 173 [sl cI ts,dK x,iv v] (fun r => r = iv (bB ts x v)):=by
 refine aC Tryz.func173 Tryz.ntmps173 ?_
 repeat' (first|refine aE ?_|(refine aM ?_ ?_ <;> intro hc hq <;> try (exfalso;omega))|(refine bS ?_ ?_ <;> intro hg hq <;> try (exfalso;omega))|refine cS ?_|fail)
 all_goals (refine ⟨?_,rfl⟩; simp only [aP,AV.v.injEq,Value.bool.injEq,Value.int.injEq,true_and])
 all_goals grind [bB]
abbrev cK (bs : List UInt8) (p : Nat) : List AV := [sl cU bs,iv (p : Int)]
def FR (bs : List UInt8) (q : Int) : Int := ((bs[(q % (bs.length : Int)).toNat]!).toNat : Int) * 131 + ((bs[((q * 7 + 3) % (bs.length : Int)).toNat]!).toNat : Int) * 1117 + q * 29 + q / (bs.length : Int) * 53
def aW (bs : List UInt8) (p : Nat) (n : Int) : Int :=
 if n < 1 then 0 else if (bs.length : Int) = 0 then 0 else
 if (p : Int) + 1 - 1 < (bs.length : Int) then ((bs[((p : Int) + 1 - 1).toNat]!).toNat : Int) % n
 else (((FR bs ((p : Int) + 1 - 1)).toNat ^^^ (FR bs ((p : Int) + 1 - 1) / 64).toNat : Nat) : Int) % n
theorem cR (bs:List UInt8) (p:Nat) (n:Int):0 ≤ aW bs p n ∧ (aW bs p n < n ∨ n < 1 ∧ aW bs p n = 0):=by
 unfold aW
 split
 ·omega
 ·split
  ·omega
  ·split
   ·exact ⟨Int.emod_nonneg _ (by omega),.inl (Int.emod_lt_of_pos _ (by omega))⟩
   ·exact ⟨Int.emod_nonneg _ (by omega),.inl (Int.emod_lt_of_pos _ (by omega))⟩
def eA (bs : List UInt8) (p : Nat) (xs : List Int) : Int := xs[(aW bs p (xs.length : Int)).toNat]!
class NumL (cs : List AV) (xs : outParam (List Int)) : Prop where h : cs = flat cI xs
instance NumL.nil : NumL [] []:=⟨rfl⟩
instance NumL.cons {n : Int} {cs : List AV} {xs : List Int} [h : NumL cs xs] : NumL (.v (.int .i64 n) :: cs) (n :: xs):=⟨by rw [h.h]; rfl⟩
theorem fR {bs:List UInt8}{p:Nat}{n:Int}{x0 x1:Operand}{i0:Nat}(ha0:ev (lk tsl) x0 = some (.optr i0 0)) (ha1:ev (lk tsl) x1 = some (iv n)) (hH0:aN hsl i0 = some (cK bs p)) (hmc:MC Tryz.prog 52 [.optr 0 0,iv n] [(0,some (cK bs p))] 1 (fun _:Unit => True) (fun _ => iv (aW bs p n)) (fun _ => [(0,some (cK bs (p + 1)))])) (hM:Nat.ble (nidl + 0) aU = true) (hN:Nat.blt d N = true){md':Md}[hmd:MdA md (dV [x0,x1] ++ [.inr i0]) (List.map Sum.inr (List.map Prod.fst ([(i0,some (cK bs (p + 1)))]:List (Nat × Option (List AV)))) ++ [.inl d]) md'] (kk:RW Tryz.prog N all Q md' rest ⟨(d,iv (aW bs p n)) :: tsl,eS hsl [(i0,some (cK bs (p + 1)))],nidl + 0,z0⟩):RW Tryz.prog N all Q md (⟨some d,.call ⟨.value (.func 52),#[x0,x1],tys⟩,ty,pos,af,none⟩ :: rest) ⟨tsl,hsl,nidl,z0⟩:=by
 exact aT (l := [x0,x1]) [i0] 1 [(i0,some (cK bs (p + 1)))] hmc (avs := [.optr i0 0,iv n]) (by simp only [evL,ha0,ha1]) rfl hM hN (md' := md') (hmd := hmd) kk
theorem Eh {bs:List UInt8}{p:Nat}{xs:List Int}{x0 x1:Operand}{i0:Nat}(ha0:ev (lk tsl) x0 = some (.optr i0 0)) (ha1:ev (lk tsl) x1 = some (sl cI xs)) (hH0:aN hsl i0 = some (cK bs p)) (hmc:MC Tryz.prog 53 [.optr 0 0,sl cI xs] [(0,some (cK bs p))] 1 (fun _:Unit => True) (fun _ => iv (eA bs p xs)) (fun _ => [(0,some (cK bs (p + 1)))])) (hM:Nat.ble (nidl + 0) aU = true) (hN:Nat.blt d N = true){md':Md}[hmd:MdA md (dV [x0,x1] ++ [.inr i0]) (List.map Sum.inr (List.map Prod.fst ([(i0,some (cK bs (p + 1)))]:List (Nat × Option (List AV)))) ++ [.inl d]) md'] (kk:RW Tryz.prog N all Q md' rest ⟨(d,iv (eA bs p xs)) :: tsl,eS hsl [(i0,some (cK bs (p + 1)))],nidl + 0,z0⟩):RW Tryz.prog N all Q md (⟨some d,.call ⟨.value (.func 53),#[x0,x1],tys⟩,ty,pos,af,none⟩ :: rest) ⟨tsl,hsl,nidl,z0⟩:=by
 exact aT (l := [x0,x1]) [i0] 1 [(i0,some (cK bs (p + 1)))] hmc (avs := [.optr i0 0,sl cI xs]) (by simp only [evL,ha0,ha1]) rfl hM hN (md' := md') (hmd := hmd) kk
theorem Cg {bs:List UInt8}{p:Nat}{xs:List Int}{x0 x1:Operand}{i0 i1:Nat}(ha0:ev (lk tsl) x0 = some (.optr i0 0)) (ha1:ev (lk tsl) x1 = some (.own i1 0 xs.length 1)) (hH0:aN hsl i0 = some (cK bs p)) (hH1:aN hsl i1 = some (flat cI xs)) (hdd:Go.AL.distinct [i0,i1] = true) (hmc:MC Tryz.prog 53 [.optr 0 0,.own 1 0 xs.length 1] [(0,some (cK bs p)),(1,some (flat cI xs))] 2 (fun _:Unit => True) (fun _ => iv (eA bs p xs)) (fun _ => [(0,some (cK bs (p + 1)))])) (hM:Nat.ble (nidl + 0) aU = true) (hN:Nat.blt d N = true){md':Md}[hmd:MdA md (dV [x0,x1] ++ [.inr i0,.inr i1]) (List.map Sum.inr (List.map Prod.fst ([(i0,some (cK bs (p + 1))),(i1,none)]:List (Nat × Option (List AV)))) ++ [.inl d]) md'] (kk:RW Tryz.prog N all Q md' rest ⟨(d,iv (eA bs p xs)) :: tsl,eS hsl [(i0,some (cK bs (p + 1))),(i1,none)],nidl + 0,z0⟩):RW Tryz.prog N all Q md (⟨some d,.call ⟨.value (.func 53),#[x0,x1],tys⟩,ty,pos,af,none⟩ :: rest) ⟨tsl,hsl,nidl,z0⟩:=by
 exact aT (l := [x0,x1]) [i0,i1] 2 [(i0,some (cK bs (p + 1))),(i1,none)] hmc (avs := [.optr i0 0,.own i1 0 xs.length 1]) (by simp only [evL,ha0,ha1]) hdd hM hN (md' := md') (hmd := hmd) kk
theorem iJ (bs:List UInt8) (p:Nat) (n:Int) (hb:bs.length ≤ 2000) (hp:p ≤ 1048576) (hn0:0 ≤ n) (hn:n ≤ 1048576):MC Tryz.prog 52 [.optr 0 0,iv n] [(0,some (cK bs p))] 1 (fun _:Unit => True) (fun _ => iv (aW bs p n)) (fun _ => [(0,some (cK bs (p + 1)))]):=by
 have hdiv : 0 ≤ ((p : Int) + 1 - 1) / (bs.length : Int) ∧ ((p : Int) + 1 - 1) / (bs.length : Int) ≤ p + 1 - 1 := ⟨Int.ediv_nonneg (by omega) (by omega),Int.ediv_le_self _ (by omega)⟩
 refine aQ Tryz.func52 Tryz.ntmps52 ?_
 repeat' (first|(apply aD;(apply BV;rfl;rfl;(case' kk => intro hbd)))|refine aE ?_|(refine aM ?_ ?_ <;> intro hc hq <;> try (exfalso;omega))|(refine bS ?_ ?_ <;> intro hg hq <;> try (exfalso;omega))|refine cE ?_|fail)
 all_goals (refine aB rfl ?_; refine aO () trivial ?_ ⟨sE ?_,trivial⟩)
 all_goals first|rfl|skip
 all_goals simp only [aP,AV.v.injEq,Value.int.injEq,true_and,aW]
 ·rw [if_neg (by omega),if_pos (by omega)]
 ·rw [if_neg (by omega),if_neg (by omega),if_pos (by omega)]
 ·rw [if_neg (by omega),if_neg (by omega),if_neg (by omega)]; rfl
 ·rw [if_pos (by omega)]
theorem GP (bs:List UInt8) (p:Nat) (xs:List Int) (hb:bs.length ≤ 2000) (hp:p ≤ 1048576) (h0:0 < xs.length) (hn:xs.length ≤ 1048576):MC Tryz.prog 53 [.optr 0 0,sl cI xs] [(0,some (cK bs p))] 1 (fun _:Unit => True) (fun _ => iv (eA bs p xs)) (fun _ => [(0,some (cK bs (p + 1)))]):=by
 have hpf := cR bs p xs.length
 refine aQ Tryz.func53 Tryz.ntmps53 ?_
 repeat' (first|(apply aD;(apply fR;rfl;rfl;(rfl);(apply iJ <;> (first|assumption|omega));rfl;rfl))|refine aE ?_|fail)
 (refine aB rfl ?_; refine aO () trivial ?_ ⟨sE ?_,trivial⟩)
 ·rfl
 ·rfl
theorem BD {Q:Exit → AS → Prop}{all:Array Oper}{rest:List Oper}{N:Nat}{tsl:List (Nat × AV)}{hsl:List (Nat × Option (List AV))}{nidl:Nat}{z0:Lo}{md:Md}{d:Nat}{ty:TypeId}{pos:String}{af:Array Edge}{tys:Array TypeId}
  {bs : List UInt8} {p m : Nat} {cs : List AV} {xs : List Int} {x0 x1 : Operand} {i0 : Nat} (ha0 : ev (lk tsl) x0 = some (.optr i0 0)) (ha1 : ev (lk tsl) x1 = some (.imm m cs)) (hcs : NumL cs xs) (hH0 : aN hsl i0 = some (cK bs p))
  (hm : m = xs.length) (hb : bs.length ≤ 2000) (hp : p ≤ 1048576) (h0 : 0 < xs.length) (hn : xs.length ≤ 1048576) (hM : Nat.ble (nidl + 0) aU = true) (hN : Nat.blt d N = true) {md' : Md}
  [hmd : MdA md (dV [x0,x1] ++ [.inr i0]) [.inr i0,.inl d] md']
  (kk : RW Tryz.prog N all Q md' rest ⟨(d,iv (eA bs p xs)) :: tsl,(i0,some (cK bs (p + 1))) :: hsl,nidl + 0,z0⟩) : RW Tryz.prog N all Q md (⟨some d,.call ⟨.value (.func 53),#[x0,x1],tys⟩,ty,pos,af,none⟩ :: rest) ⟨tsl,hsl,nidl,z0⟩ := by
 have h := hcs.h
 subst hm h
 exact Eh ha0 ha1 hH0 (GP bs p xs hb hp h0 hn) hM hN (hmd := hmd) kk
theorem Eg (bs:List UInt8) (p:Nat) (xs:List Int) (hb:bs.length ≤ 2000) (hp:p ≤ 1048576) (h0:0 < xs.length) (hn:xs.length ≤ 1048576):MC Tryz.prog 53 [.optr 0 0,.own 1 0 xs.length 1] [(0,some (cK bs p)),(1,some (flat cI xs))] 2 (fun _:Unit => True) (fun _ => iv (eA bs p xs)) (fun _ => [(0,some (cK bs (p + 1)))]):=by
 have hpf := cR bs p xs.length
 refine aQ Tryz.func53 Tryz.ntmps53 ?_
 repeat' (first|(apply aD;(apply fR;rfl;rfl;(rfl);(apply iJ <;> (first|assumption|omega));rfl;rfl))|refine aE ?_|fail)
 (refine aB rfl ?_; refine aO () trivial ?_ ⟨sE ?_,trivial⟩)
 ·rfl
 ·rfl
theorem g7 {Q:Exit → AS → Prop}{all:Array Oper}{rest:List Oper}{N:Nat}{tsl:List (Nat × AV)}{hsl:List (Nat × Option (List AV))}{nidl:Nat}{z0:Lo}{md:Md}{d:Nat}{ty:TypeId}{pos:String}{af:Array Edge}{tys:Array TypeId}
  {bs : List UInt8} {p m : Nat} {cs : List AV} {xs : List Int} {x0 x1 : Operand} {i0 i1 : Nat} (ha0 : ev (lk tsl) x0 = some (.optr i0 0)) (ha1 : ev (lk tsl) x1 = some (.own i1 0 m 1)) (hH0 : aN hsl i0 = some (cK bs p)) (hH1 : aN hsl i1 = some cs) (hcs : NumL cs xs)
  (hdd : Go.AL.distinct [i0,i1] = true) (hm : m = xs.length) (hb : bs.length ≤ 2000) (hp : p ≤ 1048576) (h0 : 0 < xs.length) (hn : xs.length ≤ 1048576) (hM : Nat.ble (nidl + 0) aU = true) (hN : Nat.blt d N = true) {md' : Md}
  [hmd : MdA md (dV [x0,x1] ++ [.inr i0,.inr i1]) [.inr i0,.inr i1,.inl d] md']
  (kk : RW Tryz.prog N all Q md' rest ⟨(d,iv (eA bs p xs)) :: tsl,eS hsl [(i0,some (cK bs (p + 1))),(i1,none)],nidl + 0,z0⟩) : RW Tryz.prog N all Q md (⟨some d,.call ⟨.value (.func 53),#[x0,x1],tys⟩,ty,pos,af,none⟩ :: rest) ⟨tsl,hsl,nidl,z0⟩ := by
 have h := hcs.h
 subst hm h
 exact Cg ha0 ha1 hH0 hH1 hdd (Eg bs p xs hb hp h0 hn) hM hN (hmd := hmd) kk
theorem F4 (bs:List UInt8) (hb:bs.length ≤ 1048576):MC Tryz.prog 51 [sl cU bs] [] 0 (fun _:Unit => True) (fun _ => .optr 0 0) (fun _ => [(0,some (cK (bs.take 2000) 0))]):=by
 refine aQ Tryz.func51 Tryz.ntmps51 ?_
 repeat' (first|refine aE ?_|(refine aM ?_ ?_ <;> intro hc hq <;> try (exfalso;omega))|fail)
 ·(refine aB rfl ?_; refine aO () trivial ?_ ⟨sE ?_, trivial⟩)
  ·rfl
  ·rfl
 ·(refine aB rfl ?_; refine aO () trivial ?_ ⟨sE ?_, trivial⟩)
  ·rfl
  ·rw [List.take_of_length_le (by omega)]; rfl
def st (op x y n : Int) : AL.Stmt := .mk op x y n [] []
def fW (bs : List UInt8) (p : Nat) : AL.Stmt × Nat :=
 let box := 1 + aW bs p 2
 let owner := eA bs (p + 1) [1,2,1,4,5]
 let c := aW bs (p + 1 + 1) 11
 if c = 0 then (st 1 0 0 (aW bs (p + 1 + 1 + 1) 10),p + 4)
 else if c = 1 then (st 2 box 0 (aW bs (p + 1 + 1 + 1) 10),p + 4)
 else if c = 2 then (st 3 box (3 - box) 0,p + 3)
 else if c = 3 then (st 4 3 owner 0,p + 3)
 else if c = 4 ∨ c = 5 then (st 5 4 (eA bs (p + 1 + 1 + 1) [1,2,1,5]) 0,p + 4)
 else if c = 6 then (st 6 0 (eA bs (p + 1 + 1 + 1) [3,4,1,2,5]) 0,p + 4)
 else if c = 7 then (st 7 (eA bs (p + 1 + 1 + 1) [4,1,2,5]) 0 0,p + 4)
 else if c = 8 then (st 8 box 0 0,p + 3)
 else (st 5 5 (eA bs (p + 1 + 1 + 1) [4,1,2]) 0,p + 4)
def eL (one : Nat → AL.Stmt × Nat) (s : AL.Stmt) (p : Nat) : Nat → List AL.Stmt × Nat
 | 0 => ([s],p)
 | k + 1 => ((eL one s p k).1 ++ [(one (eL one s p k).2).1],(one (eL one s p k).2).2)
def oV (bs : List UInt8) : Nat → Nat → AL.Stmt × Nat
 | 0,p => fW bs p
 | d + 1, p =>
  let c := aW bs (p + 1 + 1) 11
  if c = 9 then
   let r := eL (oV bs d) (st 2 1 0 (aW bs (p + 1 + 1 + 1 + 1) 10)) (p + 1 + 1 + 1 + 1 + 1) (aW bs (p + 1 + 1 + 1) 3).toNat
   let e := fW bs r.2
   (.mk 9 0 0 0 r.1 [e.1],e.2)
  else if c = 10 then
   let a := fW bs (p + 1 + 1 + 1)
   let b := fW bs a.2
   (.mk 10 0 0 0 [a.1,b.1] [],b.2)
  else fW bs p
def cQ (bs : List UInt8) (d : Int) (p : Nat) : AL.Stmt × Nat := oV bs d.toNat p
def cC (bs : List UInt8) (d n : Int) (p : Nat) : List AL.Stmt × Nat := eL (cQ bs d) (st 2 1 0 (aW bs p 10)) (p + 1) n.toNat
theorem m8 (bs:List UInt8) (p:Nat):(fW bs p).2 ≤ p + 4:=by
 unfold fW;dsimp only;repeat' split
 all_goals omega
theorem oR (bs:List UInt8) (p:Nat):bJ (fW bs p).1 = 1:=by
 unfold fW st;dsimp only;repeat' split
 all_goals simp [bJ,aK]
theorem rI {one:Nat → AL.Stmt × Nat}{c:Nat}(h:∀ p,(one p).2 ≤ p + c) (s:AL.Stmt) (p:Nat):∀ k,(eL one s p k).2 ≤ p + k * c
 | 0 => by simp [eL]
 | k + 1 => by
  have := rI h s p k
  have := h (eL one s p k).2
  simp only [eL,Nat.succ_mul]; omega
theorem r8 {one:Nat → AL.Stmt × Nat}{c:Nat}(h:∀ p,bJ (one p).1 ≤ c) (s:AL.Stmt) (p:Nat):∀ k,aK (eL one s p k).1 ≤ bJ s + k * c
 | 0 => by simp [eL,aK]
 | k + 1 => by
  have := r8 h s p k
  have := h (eL one s p k).2
  simp only [eL,Nat.succ_mul,dJ,aK]; omega
def tW : Nat → Nat
 | 0 => 4
 | d + 1 => 9 + 2 * tW d
def Ap : Nat → Nat
 | 0 => 1
 | d + 1 => 3 + 2 * Ap d
theorem k3 (bs:List UInt8) (p:Nat):(aW bs p 3).toNat ≤ 2 := by have := cR bs p 3;omega
theorem Dw (bs:List UInt8):∀ d p,(oV bs d p).2 ≤ p + tW d
 | 0,p => m8 bs p
 | d + 1, p => by
  have h0 := m8 bs p
  have h1 := rI (Dw bs d) (st 2 1 0 (aW bs (p + 1 + 1 + 1 + 1) 10)) (p + 1 + 1 + 1 + 1 + 1) (aW bs (p + 1 + 1 + 1) 3).toNat
  have h2 := k3 bs (p + 1 + 1 + 1)
  have h3 : (aW bs (p + 1 + 1 + 1) 3).toNat * tW d ≤ 2 * tW d := Nat.mul_le_mul_right _ h2
  have h4 := m8 bs (eL (oV bs d) (st 2 1 0 (aW bs (p + 1 + 1 + 1 + 1) 10)) (p + 1 + 1 + 1 + 1 + 1) (aW bs (p + 1 + 1 + 1) 3).toNat).2
  have h5 := m8 bs (p + 1 + 1 + 1)
  have h6 := m8 bs (fW bs (p + 1 + 1 + 1)).2
  have h7 : 1 ≤ tW d := by cases d <;> simp only [tW] <;> omega
  simp only [oV,tW]
  split
  ·dsimp only;omega
  ·split
   ·dsimp only;omega
   ·omega
theorem Db (bs:List UInt8):∀ d p,bJ (oV bs d p).1 ≤ Ap d
 | 0,p => by rw [oV,oR]; decide
 | d + 1, p => by
  have h0 := oR bs p
  have h1 := r8 (Db bs d) (st 2 1 0 (aW bs (p + 1 + 1 + 1 + 1) 10)) (p + 1 + 1 + 1 + 1 + 1) (aW bs (p + 1 + 1 + 1) 3).toNat
  have h2 := k3 bs (p + 1 + 1 + 1)
  have h3 : (aW bs (p + 1 + 1 + 1) 3).toNat * Ap d ≤ 2 * Ap d := Nat.mul_le_mul_right _ h2
  have h4 := oR bs (eL (oV bs d) (st 2 1 0 (aW bs (p + 1 + 1 + 1 + 1) 10)) (p + 1 + 1 + 1 + 1 + 1) (aW bs (p + 1 + 1 + 1) 3).toNat).2
  have h5 := oR bs (p + 1 + 1 + 1)
  have h6 := oR bs (fW bs (p + 1 + 1 + 1)).2
  have h7 : bJ (st 2 1 0 (aW bs (p + 1 + 1 + 1 + 1) 10)) = 1 := by simp [st,bJ,aK]
  simp only [oV,Ap]
  split
  ·simp only [bJ,aK]; omega
  ·split
   ·simp only [bJ,aK]; omega
   ·omega
theorem Dy (bs:List UInt8){d:Int}(h:d ≤ 2) (p:Nat):(cQ bs d p).2 ≤ p + 43:=by
 have h1 := Dw bs d.toNat p
 have h2 : tW d.toNat ≤ 43 := by
  have : d.toNat = 0 ∨ d.toNat = 1 ∨ d.toNat = 2 := by omega
  rcases this with h|h|h <;> rw [h] <;> decide
 exact Nat.le_trans h1 (by omega)
theorem GB (bs:List UInt8){d:Int}(h:d ≤ 2) (p:Nat):bJ (cQ bs d p).1 ≤ 13:=by
 have h1 := Db bs d.toNat p
 have h2 : Ap d.toNat ≤ 13 := by
  have : d.toNat = 0 ∨ d.toNat = 1 ∨ d.toNat = 2 := by omega
  rcases this with h|h|h <;> rw [h] <;> decide
 exact Nat.le_trans h1 h2
theorem p7 {one:Nat → AL.Stmt × Nat}(s:AL.Stmt) (p:Nat):∀ k,(eL one s p k).1.length = k + 1
 | 0 => rfl
 | k + 1 => by simp only [eL,List.length_append,p7 s p k,List.length_cons,List.length_nil]
theorem Bj (bs:List UInt8) (d:Int) (n p:Nat):(cC bs d (n:Int) p).1.length = n + 1 := p7 _ _ _
theorem FJ (bs:List UInt8) (d:Int) (k p:Nat):cC bs d ((k + 1:Nat):Int) p = ((cC bs d (k:Int) p).1 ++ [(cQ bs d (cC bs d (k:Int) p).2).1],(cQ bs d (cC bs d (k:Int) p).2).2) := rfl
theorem vH {xs:List AL.Stmt}{m:Nat}{s:AL.Stmt}(hm:m = xs.length):((flat aH xs).drop 0).take (m * 6) ++ [iv s.op,iv s.x,iv s.y,iv s.n,sl aH s.th,sl aH s.el] = flat aH (xs ++ [s]) := gM hm (bU s).symm
def Iz (s : AL.Stmt) (a : Int) : AL.Stmt := .mk a s.x s.y s.n s.th s.el
def uX (s : AL.Stmt) (a : Int) : AL.Stmt := .mk s.op a s.y s.n s.th s.el
def uY (s : AL.Stmt) (a : Int) : AL.Stmt := .mk s.op s.x a s.n s.th s.el
def uN (s : AL.Stmt) (a : Int) : AL.Stmt := .mk s.op s.x s.y a s.th s.el
theorem FY {xs:List AL.Stmt}{k:Nat}{a:Int}(hk:k < xs.length):fA (flat aH xs) (0 + k * 6 + 0) [iv a] = flat aH (xs.set k (Iz xs[k]! a)) := dA hk (by simp) (by rw [bU,bU]; rfl)
theorem Ik {xs:List AL.Stmt}{k:Nat}{a:Int}(hk:k < xs.length):fA (flat aH xs) (0 + k * 6 + 1) [iv a] = flat aH (xs.set k (uX xs[k]! a)) := dA hk (by simp) (by rw [bU,bU]; rfl)
theorem HL {xs:List AL.Stmt}{k:Nat}{a:Int}(hk:k < xs.length):fA (flat aH xs) (0 + k * 6 + 2) [iv a] = flat aH (xs.set k (uY xs[k]! a)) := dA hk (by simp) (by rw [bU,bU]; rfl)
theorem Ir {xs:List AL.Stmt}{k:Nat}{a:Int}(hk:k < xs.length):fA (flat aH xs) (0 + k * 6 + 3) [iv a] = flat aH (xs.set k (uN xs[k]! a)) := dA hk (by simp) (by rw [bU,bU]; rfl)
theorem sA (bs:List UInt8){d:Int}(h:d ≤ 2) (n:Int) (p:Nat):(cC bs d n p).2 ≤ p + 1 + n.toNat * 43 := rI (Dy bs h) _ _ _
theorem D6 (bs:List UInt8){d:Int}(h:d ≤ 2) (n:Int) (p:Nat):aK (cC bs d n p).1 ≤ 1 + n.toNat * 13:=by
 have h7 : bJ (st 2 1 0 (aW bs p 10)) = 1 := by simp [st,bJ,aK]
 have := r8 (GB bs h) (st 2 1 0 (aW bs p 10)) (p + 1) n.toNat
 rw [h7] at this
 exact this
theorem xE (bs:List UInt8){d:Int}(h:0 < d) (p:Nat):cQ bs d p = 
  let c := aW bs (p + 1 + 1) 11
  if c = 9 then
   let r := cC bs (d - 1) (aW bs (p + 1 + 1 + 1) 3) (p + 1 + 1 + 1 + 1)
   let e := cQ bs 0 r.2
   (.mk 9 0 0 0 r.1 [e.1],e.2)
  else if c = 10 then
   let a := cQ bs 0 (p + 1 + 1 + 1)
   let b := cQ bs 0 a.2
   (.mk 10 0 0 0 [a.1,b.1] [],b.2)
  else fW bs p := by
 have : d.toNat = (d - 1).toNat + 1 := by omega
 simp only [cQ,this,oV,cC]
 rfl
theorem Iq (s:AL.Stmt):flat aH [s] = [iv s.op,iv s.x,iv s.y,iv s.n,sl aH s.th,sl aH s.el] := by simp [flat,bU]
theorem Ia (s t:AL.Stmt):flat aH [s,t] = [iv s.op,iv s.x,iv s.y,iv s.n,sl aH s.th,sl aH s.el,iv t.op,iv t.x,iv t.y,iv t.n,sl aH t.th,sl aH t.el] := by simp [flat,bU]
theorem Hp (bs:List UInt8){d:Int}(h0:0 ≤ d) (p:Nat) (h:¬ 0 < d ∨ (aW bs (p + 1 + 1) 11 ≠ 9 ∧ aW bs (p + 1 + 1) 11 ≠ 10)):cQ bs d p = fW bs p:=by
 by_cases hd : 0 < d
 ·rw [xE bs hd p]
  dsimp only
  rw [if_neg (by omega),if_neg (by omega)]
 ·have : d = 0 := by omega
  subst this;rfl
theorem GC (bs:List UInt8){d:Int}(hd:0 < d) (p:Nat) (h:aW bs (p + 1 + 1) 11 = 9):cQ bs d p = (.mk 9 0 0 0 (cC bs (d - 1) (aW bs (p + 1 + 1 + 1) 3) (p + 1 + 1 + 1 + 1)).1 [(cQ bs 0 (cC bs (d - 1) (aW bs (p + 1 + 1 + 1) 3) (p + 1 + 1 + 1 + 1)).2).1],(cQ bs 0 (cC bs (d - 1) (aW bs (p + 1 + 1 + 1) 3) (p + 1 + 1 + 1 + 1)).2).2):=by
 rw [xE bs hd p]
 dsimp only
 rw [if_pos h]
theorem FI (bs:List UInt8){d:Int}(hd:0 < d) (p:Nat) (h:aW bs (p + 1 + 1) 11 = 10):cQ bs d p = (.mk 10 0 0 0 [(cQ bs 0 (p + 1 + 1 + 1)).1,(cQ bs 0 (cQ bs 0 (p + 1 + 1 + 1)).2).1] [],(cQ bs 0 (cQ bs 0 (p + 1 + 1 + 1)).2).2):=by
 rw [xE bs hd p]
 dsimp only
 rw [if_neg (by omega),if_pos h]
theorem vC {bs:List UInt8}{p:Nat}{ts:List Int}{dp:Int}{x0 x1 x2:Operand}{i0:Nat}(ha0:ev (lk tsl) x0 = some (.optr i0 0)) (ha1:ev (lk tsl) x1 = some (sl cI ts)) (ha2:ev (lk tsl) x2 = some (iv dp)) (hH0:aN hsl i0 = some (cK bs p)) (hmc:MC Tryz.prog 219 [.optr 0 0,sl cI ts,iv dp] [(0,some (cK bs p))] 1 (fun _:Unit => True) (fun _ => cX (cQ bs dp p).1) (fun _ => [(0,some (cK bs (cQ bs dp p).2))])) (hM:Nat.ble (nidl + 0) aU = true) (hN:Nat.blt d N = true){md':Md}[hmd:MdA md (dV [x0,x1,x2] ++ [.inr i0]) (List.map Sum.inr (List.map Prod.fst ([(i0,some (cK bs (cQ bs dp p).2))]:List (Nat × Option (List AV)))) ++ [.inl d]) md'] (kk:RW Tryz.prog N all Q md' rest ⟨(d,cX (cQ bs dp p).1) :: tsl,eS hsl [(i0,some (cK bs (cQ bs dp p).2))],nidl + 0,z0⟩):RW Tryz.prog N all Q md (⟨some d,.call ⟨.value (.func 219),#[x0,x1,x2],tys⟩,ty,pos,af,none⟩ :: rest) ⟨tsl,hsl,nidl,z0⟩:=by
 exact aT (l := [x0,x1,x2]) [i0] 1 [(i0,some (cK bs (cQ bs dp p).2))] hmc (avs := [.optr i0 0,sl cI ts,iv dp]) (by simp only [evL,ha0,ha1,ha2]) rfl hM hN (md' := md') (hmd := hmd) kk
theorem qE {bs:List UInt8}{p:Nat}{ts:List Int}{dp cn:Int}{x0 x1 x2 x3:Operand}{i0:Nat}(ha0:ev (lk tsl) x0 = some (.optr i0 0)) (ha1:ev (lk tsl) x1 = some (sl cI ts)) (ha2:ev (lk tsl) x2 = some (iv dp)) (ha3:ev (lk tsl) x3 = some (iv cn)) (hH0:aN hsl i0 = some (cK bs p)) (hmc:MC Tryz.prog 167 [.optr 0 0,sl cI ts,iv dp,iv cn] [(0,some (cK bs p))] 1 (fun _:Unit => True) (fun _ => sl aH (cC bs dp cn p).1) (fun _ => [(0,some (cK bs (cC bs dp cn p).2))])) (hM:Nat.ble (nidl + 0) aU = true) (hN:Nat.blt d N = true){md':Md}[hmd:MdA md (dV [x0,x1,x2,x3] ++ [.inr i0]) (List.map Sum.inr (List.map Prod.fst ([(i0,some (cK bs (cC bs dp cn p).2))]:List (Nat × Option (List AV)))) ++ [.inl d]) md'] (kk:RW Tryz.prog N all Q md' rest ⟨(d,sl aH (cC bs dp cn p).1) :: tsl,eS hsl [(i0,some (cK bs (cC bs dp cn p).2))],nidl + 0,z0⟩):RW Tryz.prog N all Q md (⟨some d,.call ⟨.value (.func 167),#[x0,x1,x2,x3],tys⟩,ty,pos,af,none⟩ :: rest) ⟨tsl,hsl,nidl,z0⟩:=by
 exact aT (l := [x0,x1,x2,x3]) [i0] 1 [(i0,some (cK bs (cC bs dp cn p).2))] hmc (avs := [.optr i0 0,sl cI ts,iv dp,iv cn]) (by simp only [evL,ha0,ha1,ha2,ha3]) rfl hM hN (md' := md') (hmd := hmd) kk
attribute [local irreducible] aW
theorem tR (D:Int) (hD0:0 ≤ D) (hD:D ≤ 2) (l1One_ih:∀ bs p ts,0 < D → bs.length ≤ 2000 → p ≤ 900000 → ∀ dp:Int,dp = 0 → MC Tryz.prog 219 [.optr 0 0,sl cI ts,iv dp] [(0,some (cK bs p))] 1 (fun _:Unit => True) (fun _ => cX (cQ bs dp p).1) (fun _ => [(0,some (cK bs (cQ bs dp p).2))])) (l1Some_ih:∀ bs (p:Nat) ts cn,0 < D → bs.length ≤ 2000 → (p:Int) ≤ 850000 - 100000 * (D - 1) → 0 ≤ cn → cn ≤ 2 → ∀ dp:Int,dp = D - 1 → MC Tryz.prog 167 [.optr 0 0,sl cI ts,iv dp,iv cn] [(0,some (cK bs p))] 1 (fun _:Unit => True) (fun _ => sl aH (cC bs dp cn p).1) (fun _ => [(0,some (cK bs (cC bs dp cn p).2))])) (bs:List UInt8) (p:Nat) (ts:List Int) (dp:Int) (hd:dp = D) (hb:bs.length ≤ 2000) (hp:(p:Int) ≤ 900000 - 100000 * D):MC Tryz.prog 219 [.optr 0 0,sl cI ts,iv dp] [(0,some (cK bs p))] 1 (fun _:Unit => True) (fun _ => cX (cQ bs dp p).1) (fun _ => [(0,some (cK bs (cQ bs dp p).2))]):=by
 subst hd
 have h0 := cR bs p 2
 have h2 := cR bs (p + 1 + 1) 11
 have h3 := cR bs (p + 1 + 1 + 1) 3
 have h3' := k3 bs (p + 1 + 1 + 1)
 have h4 := Dy bs (d := 0) (by omega) (p + 1 + 1 + 1)
 have h5 := sA bs (d := dp - 1) (by omega) (aW bs (p + 1 + 1 + 1) 3) (p + 1 + 1 + 1 + 1)
 have h6 : (aW bs (p + 1 + 1 + 1) 3).toNat * 43 ≤ 2 * 43 := Nat.mul_le_mul_right _ h3'
 refine aQ Tryz.func219 Tryz.ntmps219 ?_
 repeat' (first|(apply aD;first|(apply aJ (t := _);rfl;rfl;rfl;(first|exact (rfl:_=some [_,_,_])|exact (rfl:_=some [_,_,_,_])|exact (rfl:_=some [_,_,_,_,_])|exact (rfl:_=some [_,_,_,_,_,_])|rfl);rfl;rfl)|(first|(apply fR;rfl;rfl;(rfl);(apply iJ <;> (first|assumption|omega));rfl;rfl)|(apply BD;rfl;rfl;infer_instance;rfl;(rfl);assumption;omega;(decide);(decide);rfl;rfl)|(apply qE;rfl;rfl;rfl;rfl;(rfl);(apply l1Some_ih <;> (first|assumption|omega));rfl;rfl)|(apply vC;rfl;rfl;rfl;(rfl);(apply l1One_ih <;> (first|assumption|omega));rfl;rfl)))|refine aE ?_|(refine aM ?_ ?_ <;> intro hc hq <;> try (exfalso;omega))|fail)
 all_goals try (refine aB rfl ?_; refine aO () trivial ?_ ⟨sE ?_,trivial⟩)
 all_goals try (rw [Hp bs hD0 p (by omega)]; unfold fW; dsimp only; repeat' split
                all_goals (first|rfl|(exfalso;omega));done)
 iterate 2
  rewrite [GC bs (d := dp) (by assumption) p (by assumption)]
  first|rfl|(refine Eq.trans (b := AV.agg [_,_,_,_,_,AV.imm 1 (flat aH [_])]) ?_ rfl;rw [Iq]; rfl)
 iterate 2
  rewrite [FI bs (d := dp) (by omega) p (by omega)]
  first|rfl|(refine Eq.trans (b := AV.agg [_,_,_,_,AV.imm 2 (flat aH [_,_]),_]) ?_ rfl;rw [Ia]; rfl)
theorem qM (D:Int) (hD0:0 ≤ D) (hD:D ≤ 2) (l1One_ih:∀ bs (p:Nat) ts,bs.length ≤ 2000 → (p:Int) ≤ 900000 - 100000 * D → ∀ dp:Int,dp = D → MC Tryz.prog 219 [.optr 0 0,sl cI ts,iv dp] [(0,some (cK bs p))] 1 (fun _:Unit => True) (fun _ => cX (cQ bs dp p).1) (fun _ => [(0,some (cK bs (cQ bs dp p).2))])) (bs:List UInt8) (p:Nat) (ts:List Int) (dp:Int) (hd:dp = D) (cn:Int) (hb:bs.length ≤ 2000) (hp:(p:Int) ≤ 850000 - 100000 * D) (hc0:0 ≤ cn) (hc:cn ≤ 8):MC Tryz.prog 167 [.optr 0 0,sl cI ts,iv dp,iv cn] [(0,some (cK bs p))] 1 (fun _:Unit => True) (fun _ => sl aH (cC bs dp cn p).1) (fun _ => [(0,some (cK bs (cC bs dp cn p).2))]):=by
 subst hd
 refine aQ Tryz.func167 Tryz.ntmps167 ?_
 repeat' (first|(apply aD;(apply fR;rfl;rfl;(rfl);(apply iJ <;> (first|assumption|omega));rfl;rfl))|refine aE ?_|fail)
 refine aL (σ := Nat × List AL.Stmt × Nat) [0,1,2,3] [] (fun k => [(10,iv (k.1 : Int)),(9,.own 1 0 (k.1 + 1) 6)]) (fun k => [(0,some (cK bs k.2.2)),(1,some (flat aH k.2.1))]) (fun k => (k.1 : Int) ≤ cn ∧ k.2 = cC bs dp (k.1 : Int) p) (fun k => cn.toNat - k.1) (0,[st 2 1 0 (aW bs p 10)],p + 1) ⟨by omega,rfl⟩ ?_
 rintro ⟨k,xs,q⟩ ⟨hk,hse⟩
 dsimp only at hk hse ⊢
 have hp2 := sA bs (d := dp) (by omega) (k : Int) p
 have hkk : (k : Int).toNat * 43 ≤ 8 * 43 := Nat.mul_le_mul_right _ (by omega)
 have hln := Bj bs dp k p
 rw [← hse] at hp2 hln
 dsimp only at hp2 hln
 repeat' (first|(apply aD;first|(apply aJ (t := _);rfl;rfl;rfl;(exact (rfl:_=some [_,_,_,_,_,_]));rfl;rfl)|(apply vC;rfl;rfl;rfl;(rfl);(apply l1One_ih <;> (first|assumption|omega));rfl;rfl))|refine aE ?_|(refine aM ?_ ?_ <;> intro hc hq <;> try (exfalso;omega))|fail)
 ·(refine bX (k + 1, _, _) (Le.renA [(1, 3)]) ?_ ?_)
  ·dsimp only
   refine ⟨by omega,?_⟩
   rw [FJ,← hse]
  ·dsimp only;omega
 ·have hke : (k : Int) = cn := by omega
  rw [hke] at hse
  (refine aS (Le.frzD (d := 8) (i := 1) rfl rfl) ?_; refine aB rfl ?_)
  refine aO () trivial ?_ ⟨sE ?_,trivial⟩
  ·rw [← hse]; show AV.imm (k + 1) (flat aH xs) = AV.imm xs.length (flat aH xs)
   rw [hln]
  ·rw [← hse]
theorem j4:∀ D:Nat,D ≤ 2 → (∀ bs (p:Nat) ts,bs.length ≤ 2000 → (p:Int) ≤ 900000 - 100000 * (D:Int) → ∀ dp:Int,dp = (D:Int) → MC Tryz.prog 219 [.optr 0 0,sl cI ts,iv dp] [(0,some (cK bs p))] 1 (fun _:Unit => True) (fun _ => cX (cQ bs dp p).1) (fun _ => [(0,some (cK bs (cQ bs dp p).2))])) ∧ (∀ bs (p:Nat) ts (cn:Int),bs.length ≤ 2000 → (p:Int) ≤ 850000 - 100000 * (D:Int) → 0 ≤ cn → cn ≤ 8 → ∀ dp:Int,dp = (D:Int) → MC Tryz.prog 167 [.optr 0 0,sl cI ts,iv dp,iv cn] [(0,some (cK bs p))] 1 (fun _:Unit => True) (fun _ => sl aH (cC bs dp cn p).1) (fun _ => [(0,some (cK bs (cC bs dp cn p).2))]))
 | 0, _ => by
  have h1 : ∀ bs (p : Nat) ts, bs.length ≤ 2000 → (p : Int) ≤ 900000 - 100000 * ((0 : Nat) : Int) → ∀ dp : Int, dp = ((0 : Nat) : Int) → MC Tryz.prog 219 [.optr 0 0, sl cI ts, iv dp] [(0, some (cK bs p))] 1 (fun _ : Unit => True) (fun _ => cX (cQ bs dp p).1) (fun _ => [(0, some (cK bs (cQ bs dp p).2))]) :=
   fun bs p ts hb hp dp hd => tR ((0 : Nat) : Int) (by omega) (by omega) (fun _ _ _ h => by omega) (fun _ _ _ _ h => by omega) bs p ts dp hd hb hp
  exact ⟨h1,fun bs p ts cn hb hp h0 h8 dp hd => qM ((0 : Nat) : Int) (by omega) (by omega) h1 bs p ts dp hd cn hb hp h0 h8⟩
 | D + 1, hD => by
  have ih := j4 D (by omega)
  have i0 := j4 0 (by omega)
  have h1 : ∀ bs (p : Nat) ts, bs.length ≤ 2000 → (p : Int) ≤ 900000 - 100000 * ((D + 1 : Nat) : Int) → ∀ dp : Int, dp = ((D + 1 : Nat) : Int) → MC Tryz.prog 219 [.optr 0 0, sl cI ts, iv dp] [(0, some (cK bs p))] 1 (fun _ : Unit => True) (fun _ => cX (cQ bs dp p).1) (fun _ => [(0, some (cK bs (cQ bs dp p).2))]) :=
   fun bs p ts hb hp dp hd => tR ((D + 1 : Nat) : Int) (by omega) (by omega) (fun bs p ts _ hb hp dp hd => i0.1 bs p ts hb (by omega) dp (by omega)) (fun bs p ts cn _ hb hp h0 h2 dp hd => ih.2 bs p ts cn hb (by omega) h0 (by omega) dp (by omega)) bs p ts dp hd hb hp
  exact ⟨h1,fun bs p ts cn hb hp h0 h8 dp hd => qM ((D + 1 : Nat) : Int) (by omega) (by omega) h1 bs p ts dp hd cn hb hp h0 h8⟩
theorem Cy (bs:List UInt8) (p:Nat) (ts:List Int) (dp cn:Int) (hb:bs.length ≤ 2000) (hp:p ≤ 600000) (h0:0 ≤ cn) (h8:cn ≤ 8) (hd0:0 ≤ dp) (hd:dp ≤ 2):MC Tryz.prog 167 [.optr 0 0,sl cI ts,iv dp,iv cn] [(0,some (cK bs p))] 1 (fun _:Unit => True) (fun _ => sl aH (cC bs dp cn p).1) (fun _ => [(0,some (cK bs (cC bs dp cn p).2))]) :=
 (j4 dp.toNat (by omega)).2 bs p ts cn hb (by omega) h0 h8 dp (by omega)
end Go.Proofs.YtahdccneecdmmaaGreat
namespace Go.Proofs.YtahdccneecdmmaaGreat
open Go.AL Go.RowKit
variable {N : Nat} {Q : Exit → AS → Prop} {all : Array Oper} {rest : List Oper} {tsl : List (Nat × AV)} {hsl : List (Nat × Option (List AV))} {nidl : Nat} {z0 : Lo} {md : Md} {d : Nat} {ty : TypeId} {pos : String} {af : Array Edge} {tys : Array TypeId}
theorem zP {w:World}{bad:Nat → Prop}{ι:Pl}:∀ {cs cs':List AV},All2 (fun c c' => c' = c ∨ c' = lS c) cs cs' → ∀ {b β:Nat},RdC w bad ι cs b β → RdC w bad ι cs' b β
 | _,_,.nil,_,_,h => h
 | _, _, .cons h1 h2, b, β, h => by
  simp only [RdC] at h ⊢
  obtain ⟨⟨x,q1,q2,q3⟩,q4⟩ := h
  refine ⟨⟨x,q1,q2,?_⟩,zP h2 q4⟩
  rcases h1 with rfl|rfl
  ·exact q3
  ·exact j3 q3
theorem zQ:∀ (l:List AV){a b:List AV},All2 (fun c c' => c' = c ∨ c' = lS c) a b → All2 (fun c c' => c' = c ∨ c' = lS c) (l ++ a) (l ++ b)
 | [],_,_,h => h
 | _ :: l,_,_,h => .cons (.inl rfl) (zQ l h)
theorem lL {α:Type}{p q:α → Prop}{F:α → AS}{s s':AS}(L:Le s s') (h:∃ j,p j ∧ q j ∧ Le s' (F j)):∃ j,p j ∧ q j ∧ Le s (F j):=by
 obtain ⟨j,h1,h2,h3⟩ := h
 exact ⟨j,h1,h2,L.trans h3⟩
theorem Le.stmtN {ts:List (Nat × AV)}{hs:List (Nat × Option (List AV))}{n i:Nat}{z0:Lo}{xs:List AL.Stmt}(s:AL.Stmt){m:Nat}{a b:AV}(hm:m = xs.length)
  (ha : a = sl aH s.th ∨ (a = .v (.slice none 0 0) ∧ s.th = [])) (hb : b = sl aH s.el ∨ (b = .v (.slice none 0 0) ∧ s.el = []))
  (hi : aN hs i = some (((flat aH xs).drop 0).take (m * 6) ++ List.take (1 * 6) [iv s.op,iv s.x,iv s.y,iv s.n,a,b])) : Le ⟨ts,hs,n,z0⟩ ⟨ts,(i,some (flat aH (xs ++ [s]))) :: hs,n,z0⟩ := by
 have e : flat aH (xs ++ [s]) = ((flat aH xs).drop 0).take (m * 6) ++ [iv s.op,iv s.x,iv s.y,iv s.n,sl aH s.th,sl aH s.el] := (vH hm).symm
 have k : All2 (fun c c' => c' = c ∨ c' = lS c) (((flat aH xs).drop 0).take (m * 6) ++ List.take (1 * 6) [iv s.op, iv s.x, iv s.y, iv s.n, a, b]) (flat aH (xs ++ [s])) := by
  rw [e]
  refine zQ _ (.cons (.inl rfl) (.cons (.inl rfl) (.cons (.inl rfl) (.cons (.inl rfl) (.cons ?_ (.cons ?_ .nil))))))
  ·rcases ha with h | ⟨h, h2⟩
   ·exact .inl h.symm
   ·refine .inr ?_; rw [h2,h]; rfl
  ·rcases hb with h | ⟨h, h2⟩
   ·exact .inl h.symm
   ·refine .inr ?_; rw [h2,h]; rfl
 refine Le.cells hi ?_ fun w bad ι b β h => zP k h
 rw [e]; simp
theorem yW (mm:Nat) (hmm:mm ≤ 1048576) (copy_ih:∀ l,aK l < mm → PC Tryz.prog 131 [sl aH l] (fun r => r = sl aH l)) (l:List AL.Stmt) (hs:aK l ≤ mm):PC Tryz.prog 131 [sl aH l] (fun r => r = sl aH l):=by
 have hlen := cN l
 refine aC Tryz.func131 Tryz.ntmps131 ?_
 repeat' (first|refine aE ?_|fail)
 refine aL (σ := Nat × List AL.Stmt) [0] [] (fun k => [(4,iv (k.1 : Int)),(3,.own 0 0 k.1 6)]) (fun k => [(0,some (flat aH k.2))]) (fun k => k.1 ≤ l.length ∧ k.2 = l.take k.1) (fun k => l.length - k.1) (0,[]) ⟨by omega,rfl⟩ ?_
 rintro ⟨k,xs⟩ ⟨hk,hxs⟩
 dsimp only at hk hxs ⊢
 have hck := dM l k
 have hct := hO l[k]!
 have hln : xs.length = k := by rw [hxs,List.length_take]; omega
 repeat' (first|(apply aD;first|(apply aJ (t := _);rfl;rfl;rfl;(exact (rfl:_=some [_,_,_,_,_,_]));rfl;rfl)|(apply aA (k := 131);rfl;(apply copy_ih <;> (omega));exact Pur.pf;rfl))|refine aE ?_|(refine aM ?_ ?_ <;> intro hc hq <;> try (exfalso;omega))|fail)
 ·(refine bX (k + 1, _) (Le.renA [(0, 3)]) ?_ ?_)
  ·exact ⟨by dsimp only;omega,by dsimp only;rw [hxs,bD l k (by omega)]⟩
  ·dsimp only;omega
 ·have hel : l[k]!.el = [] := List.eq_nil_of_length_eq_zero (by omega)
  refine lL (Le.stmtN (i := 3) l[k]! hln.symm (.inl rfl) (.inr ⟨rfl,hel⟩) rfl) ?_
  (refine bX (k + 1,_) (Le.renA [(0,3)]) ?_ ?_)
  ·exact ⟨by dsimp only;omega,by dsimp only;rw [hxs,bD l k (by omega)]⟩
  ·dsimp only;omega
 ·have hth : l[k]!.th = [] := List.eq_nil_of_length_eq_zero (by omega)
  refine lL (Le.stmtN (i := 3) l[k]! hln.symm (.inr ⟨rfl,hth⟩) (.inl rfl) rfl) ?_
  (refine bX (k + 1,_) (Le.renA [(0,3)]) ?_ ?_)
  ·exact ⟨by dsimp only;omega,by dsimp only;rw [hxs,bD l k (by omega)]⟩
  ·dsimp only;omega
 ·have hth : l[k]!.th = [] := List.eq_nil_of_length_eq_zero (by omega)
  have hel : l[k]!.el = [] := List.eq_nil_of_length_eq_zero (by omega)
  refine lL (Le.stmtN (i := 3) l[k]! hln.symm (.inr ⟨rfl,hth⟩) (.inr ⟨rfl,hel⟩) rfl) ?_
  (refine bX (k + 1,_) (Le.renA [(0,3)]) ?_ ?_)
  ·exact ⟨by dsimp only;omega,by dsimp only;rw [hxs,bD l k (by omega)]⟩
  ·dsimp only;omega
 ·have hke : k = l.length := by omega
  (refine aS (Le.frzD (d := 2) (i := 0) rfl rfl) ?_; refine aB rfl ?_)
  refine ⟨?_,Pur.pf⟩
  rw [hxs,hke,List.take_length]; rfl
theorem Ha (l:List AL.Stmt) (hb:aK l ≤ 1048576):PC Tryz.prog 131 [sl aH l] (fun r => r = sl aH l):=by
 have key : ∀ m, m ≤ 1048576 → ∀ l, aK l ≤ m → PC Tryz.prog 131 [sl aH l] (fun r => r = sl aH l) := by
  intro m
  induction m with
  | zero => intro hm l hl;exact yW 0 hm (fun l h => by omega) l hl
  | succ m ih => intro hm l hl;exact yW (m + 1) hm (fun l h => ih (by omega) l (by omega)) l hl
 exact key (aK l) hb l (Nat.le_refl _)
theorem EL (l:List AL.Stmt) (hs:aK l ≤ 1048576):MC Tryz.prog 131 [sl aH l] [] 0 (fun _:Unit => True) (fun _ => .own 0 0 l.length 6) (fun _ => [(0,some (flat aH l))]):=by
 have hlen := cN l
 refine aQ Tryz.func131 Tryz.ntmps131 ?_
 repeat' (first|refine aE ?_|fail)
 refine aL (σ := Nat × List AL.Stmt) [0] [] (fun k => [(4,iv (k.1 : Int)),(3,.own 0 0 k.1 6)]) (fun k => [(0,some (flat aH k.2))]) (fun k => k.1 ≤ l.length ∧ k.2 = l.take k.1) (fun k => l.length - k.1) (0,[]) ⟨by omega,rfl⟩ ?_
 rintro ⟨k,xs⟩ ⟨hk,hxs⟩
 dsimp only at hk hxs ⊢
 have hck := dM l k
 have hct := hO l[k]!
 have hln : xs.length = k := by rw [hxs,List.length_take]; omega
 repeat' (first|(apply aD;first|(apply aJ (t := _);rfl;rfl;rfl;(exact (rfl:_=some [_,_,_,_,_,_]));rfl;rfl)|(apply aA (k := 131);rfl;(apply Ha <;> (omega));exact Pur.pf;rfl))|refine aE ?_|(refine aM ?_ ?_ <;> intro hc hq <;> try (exfalso;omega))|fail)
 ·(refine bX (k + 1, _) (Le.renA [(0, 3)]) ?_ ?_)
  ·exact ⟨by dsimp only;omega,by dsimp only;rw [hxs,bD l k (by omega)]⟩
  ·dsimp only;omega
 ·have hel : l[k]!.el = [] := List.eq_nil_of_length_eq_zero (by omega)
  refine lL (Le.stmtN (i := 3) l[k]! hln.symm (.inl rfl) (.inr ⟨rfl,hel⟩) rfl) ?_
  (refine bX (k + 1,_) (Le.renA [(0,3)]) ?_ ?_)
  ·exact ⟨by dsimp only;omega,by dsimp only;rw [hxs,bD l k (by omega)]⟩
  ·dsimp only;omega
 ·have hth : l[k]!.th = [] := List.eq_nil_of_length_eq_zero (by omega)
  refine lL (Le.stmtN (i := 3) l[k]! hln.symm (.inr ⟨rfl,hth⟩) (.inl rfl) rfl) ?_
  (refine bX (k + 1,_) (Le.renA [(0,3)]) ?_ ?_)
  ·exact ⟨by dsimp only;omega,by dsimp only;rw [hxs,bD l k (by omega)]⟩
  ·dsimp only;omega
 ·have hth : l[k]!.th = [] := List.eq_nil_of_length_eq_zero (by omega)
  have hel : l[k]!.el = [] := List.eq_nil_of_length_eq_zero (by omega)
  refine lL (Le.stmtN (i := 3) l[k]! hln.symm (.inr ⟨rfl,hth⟩) (.inr ⟨rfl,hel⟩) rfl) ?_
  (refine bX (k + 1,_) (Le.renA [(0,3)]) ?_ ?_)
  ·exact ⟨by dsimp only;omega,by dsimp only;rw [hxs,bD l k (by omega)]⟩
  ·dsimp only;omega
 ·have hke : k = l.length := by omega
  have hxl : xs = l := by rw [hxs,hke,List.take_length]
  subst hke
  refine aB rfl ?_
  refine aO () trivial ?_ ⟨sE ?_,trivial⟩
  ·rfl
  ·rw [hxl]
theorem Ce {l:List AL.Stmt}{x0:Operand}(ha0:ev (lk tsl) x0 = some (sl aH l)) (hmc:MC Tryz.prog 131 [sl aH l] [] 0 (fun _:Unit => True) (fun _ => .own 0 0 l.length 6) (fun _ => [(0,some (flat aH l))])) (hM:Nat.ble (nidl + 1) aU = true) (hN:Nat.blt d N = true){md':Md}[hmd:MdA md (dV [x0] ++ []) (List.map Sum.inr (List.map Prod.fst ([(nidl,some (flat aH l))]:List (Nat × Option (List AV)))) ++ [.inl d]) md'] (kk:RW Tryz.prog N all Q md' rest ⟨(d,.own nidl 0 l.length 6) :: tsl,eS hsl [(nidl,some (flat aH l))],nidl + 1,z0⟩):RW Tryz.prog N all Q md (⟨some d,.call ⟨.value (.func 131),#[x0],tys⟩,ty,pos,af,none⟩ :: rest) ⟨tsl,hsl,nidl,z0⟩:=by
 exact aT (l := [x0]) [] 1 [(nidl,some (flat aH l))] hmc (avs := [sl aH l]) (by simp only [evL,ha0]) rfl hM hN (md' := md') (hmd := hmd) kk
theorem AZ {q:Prg}{x0:Operand}(ha0:ev (lk tsl) x0 = some (bE q)) (hmc:MC Tryz.prog 63 [bE q] [] 0 (fun _:Unit => True) (fun _ => .agg [.own 3 0 q.types.length 1,.own 4 0 q.body.length 6]) (fun _ => [(3,some (flat cI q.types)),(4,some (flat aH q.body))])) (hM:Nat.ble (nidl + 5) aU = true) (hN:Nat.blt d N = true){md':Md}[hmd:MdA md (dV [x0] ++ []) (List.map Sum.inr (List.map Prod.fst ([((nidl + 3),some (flat cI q.types)),((nidl + 4),some (flat aH q.body))]:List (Nat × Option (List AV)))) ++ [.inl d]) md'] (kk:RW Tryz.prog N all Q md' rest ⟨(d,.agg [.own (nidl + 3) 0 q.types.length 1,.own (nidl + 4) 0 q.body.length 6]) :: tsl,eS hsl [((nidl + 3),some (flat cI q.types)),((nidl + 4),some (flat aH q.body))],nidl + 5,z0⟩):RW Tryz.prog N all Q md (⟨some d,.call ⟨.value (.func 63),#[x0],tys⟩,ty,pos,af,none⟩ :: rest) ⟨tsl,hsl,nidl,z0⟩:=by
 exact aT (l := [x0]) [] 5 [((nidl + 3),some (flat cI q.types)),((nidl + 4),some (flat aH q.body))] hmc (avs := [bE q]) (by simp only [evL,ha0]) rfl hM hN (md' := md') (hmd := hmd) kk
theorem CP (q:Prg) (hs:aK q.body ≤ 1048576) (ht:q.types.length ≤ 1048576):MC Tryz.prog 63 [bE q] [] 0 (fun _:Unit => True) (fun _ => .agg [.own 3 0 q.types.length 1,.own 4 0 q.body.length 6]) (fun _ => [(3,some (flat cI q.types)),(4,some (flat aH q.body))]):=by
 refine aQ Tryz.func63 Tryz.ntmps63 ?_
 repeat' (first|(apply aD;(apply Ce;rfl;(apply EL;assumption);rfl;rfl))|refine aE ?_|refine cE ?_|fail)
 refine aB rfl ?_
 refine aO () trivial ?_ ⟨sE ?_,sE ?_,trivial⟩
 ·show AV.agg [AV.own 3 0 (0 + q.types.length) 1, AV.own 4 0 q.body.length 6] = _
  rw [Nat.zero_add]
 ·rfl
 ·rfl
theorem Ci (s:AL.Stmt) (a:Int):bJ (Iz s a) = bJ s := by simp [dR,Iz,AL.Stmt.th,AL.Stmt.el]
theorem Et (s:AL.Stmt) (a:Int):bJ (uX s a) = bJ s := by simp [dR,uX,AL.Stmt.th,AL.Stmt.el]
theorem D8 (s:AL.Stmt) (a:Int):bJ (uY s a) = bJ s := by simp [dR,uY,AL.Stmt.th,AL.Stmt.el]
theorem EK (s:AL.Stmt) (a:Int):bJ (uN s a) = bJ s := by simp [dR,uN,AL.Stmt.th,AL.Stmt.el]
theorem iL:∀ (xs:List AL.Stmt) (k:Nat) (y:AL.Stmt),k < xs.length → bJ y = bJ xs[k]! → aK (xs.set k y) = aK xs
 | [],k,y,h,_ => by simp at h
 | x :: xs,0,y,_,h => by simp only [List.set_cons_zero,aK]; simp only [List.getElem!_cons_zero] at h;omega
 | x :: xs, k + 1, y, h, h2 => by
  simp only [List.set_cons_succ,aK]
  rw [iL xs k y (by simpa using h) (by rw [h2]; simp only [List.getElem!_cons_succ])]
theorem uC (s:AL.Stmt):∀ k,aK (List.replicate k s) = k * bJ s
 | 0 => by simp [aK]
 | k + 1 => by simp only [List.replicate_succ,aK,uC s k,Nat.succ_mul]; omega
theorem s7:∀ (xs:List AL.Stmt) (k:Nat),aK (xs.take k ++ xs.drop (k + 1)) ≤ aK xs
 | [],k => by simp [aK]
 | x :: xs,0 => by simp [aK]
 | x :: xs,k + 1 => by have := s7 xs k;simp only [List.take_succ_cons,List.drop_succ_cons,List.cons_append,aK]; omega
theorem mK {T:Nat → Option AV}{x:Operand}{dd:Nat}{k:IntKind}{m:Int}(hx:ev T x = some (.v (.int k m))) (h:0 ≤ m):dX T (some x) dd = some m.toNat:=by
 simp only [dX,hx]; rw [if_pos h]
section
variable {P : Program} {N : Nat} {Q : Exit → AS → Prop} {all : Array Oper} {rest : List Oper} {ts : List (Nat × AV)} {hs : List (Nat × Option (List AV))} {n : Nat} {z0 : Lo} {md : Md}
variable {d : Nat} {ty : TypeId} {pos : String} {af : Array Edge}
theorem xC {t el:TypeId}{x:Operand}{hi:Option Operand}{i o m e h:Nat}[ht:SlT P t el] [he:SzT P el e] (hx:ev (lk ts) x = some (.own i o m e))
  (hh : dX (lk ts) hi m = some h) (hb : h ≤ m) (hN : Nat.blt d N = true) {md' : Md} [hmd : MdA md (rO x ++ (rB none ++ rB hi)) [.inl d] md'] (kk : RW P N all Q md' rest ⟨(d,.own i o h e) :: ts,hs,n,z0⟩) :
  RW P N all Q md (⟨some d,.slice t x none hi none,ty,pos,af,none⟩ :: rest) ⟨ts,hs,n,z0⟩ :=
 eO (m := m) (l := 0) (h := h) hx rfl rfl hh (by simp [Gh,hb]) hN (md' := md') (hmd := hmd) kk
end
theorem FH {hs:List (Nat × Option (List AV))}{xs:List AL.Stmt}{i k n:Nat}(hH:aN hs i = some (flat aH xs)) (hn:n = xs.length - k):sCells (aN hs) 6 (lS (.own i (0 + k * 6) n 6)) = some (n,flat aH (xs.drop k)):=by
 show ((aN hs i).bind fun cs => if n * 6 ≤ (cs.drop (0 + k * 6)).length then some (n,(cs.drop (0 + k * 6)).take (n * 6)) else none) = _
 rw [hH,Option.bind_some,Nat.zero_add]
 have h1 : (flat aH xs).length = xs.length * 6 := aI aH xs
 have h3 : (flat aH xs).drop (k * 6) = flat aH (xs.drop k) := by
  have h4 : flat aH xs = flat aH (xs.take k) ++ flat aH (xs.drop k) := by rw [bI,List.take_append_drop]
  have h5 : (flat aH (xs.take k)).length = (xs.take k).length * 6 := aI aH _
  by_cases hk : k ≤ xs.length
  ·rw [h4,← show (flat aH (xs.take k)).length = k * 6 from by rw [h5,List.length_take]; congr 1;omega,List.drop_left]
  ·rw [List.drop_of_length_le (by omega),List.drop_of_length_le (by omega)]; rfl
 rw [h3]
 have h2 : (flat aH (xs.drop k)).length = (xs.length - k) * 6 := by rw [aI aH (e := 6),List.length_drop]
 rw [if_pos (by omega),List.take_of_length_le (by omega)]
theorem Ft {xs ys:List AL.Stmt}{k:Nat}(hk:k ≤ xs.length):((flat aH xs).drop 0).take (k * 6) ++ flat aH ys = flat aH (xs.take k ++ ys):=by
 rw [List.drop_zero,cT aH (e := 6),bI]
theorem oI (bs:List UInt8) (p:Nat) (q:Prg) (hb:bs.length ≤ 2000) (hp:p ≤ 900000) (hs:aK q.body ≤ 10000) (ht:q.types.length ≤ 10000):MC Tryz.prog 93 [.optr 0 0,bE q] [(0,some (cK bs p))] 1 (fun x:Prg × Nat => aK x.1.body ≤ 32 * aK q.body ∧ x.1.types.length ≤ q.types.length + 1 ∧ x.2 ≤ p + 3) (fun x => bE x.1) (fun x => [(0,some (cK bs x.2))]):=by
 have hlen := cN q.body
 have h0 := cR bs p (q.body.length : Int)
 refine aQ Tryz.func93 Tryz.ntmps93 ?_
 repeat' (first|(apply aD;(first|(apply fR;rfl;rfl;(rfl);(apply iJ <;> (first|assumption|omega));rfl;rfl)|(apply g7;rfl;rfl;rfl;rfl;infer_instance;rfl;(rfl);assumption;omega;(decide);(decide);rfl;rfl)|(apply AZ;rfl;(apply CP <;> (omega));rfl;rfl)))|refine aE ?_|(refine aM ?_ ?_ <;> intro hc hq <;> try (exfalso;omega))|refine cE ?_|fail)
 ·refine aS (Le.frzC (j := 2) (i := 6) [] rfl rfl (by decide)) ?_
  refine aS (Le.frzC (j := 2) (i := 7) [.imm _ _] rfl rfl (by decide)) ?_
  refine aB rfl ?_
  refine aO ((⟨q.types,q.body⟩ : Prg),p) ?_ ?_ ⟨sE ?_,trivial⟩
  ·exact ⟨by dsimp only;omega,by dsimp only;omega,by dsimp only;omega⟩
  ·rfl
  ·rfl
 ·refine aS (Le.frzC (j := 2) (i := 6) [] rfl rfl (by decide)) ?_
  refine aS (Le.frzC (j := 2) (i := 7) [.imm _ _] rfl rfl (by decide)) ?_
  refine aB rfl ?_
  refine aO ((⟨q.types,q.body.set (aW bs p (q.body.length : Int)).toNat (Iz q.body[(aW bs p (q.body.length : Int)).toNat]! (eA bs (p + 1 + 1) [0,11,1,3,8]))⟩ : Prg),p + 1 + 1 + 1) ?_ ?_ ⟨sE ?_,trivial⟩
  ·refine ⟨?_,by dsimp only;omega,by dsimp only;omega⟩; dsimp only;rw [iL q.body (aW bs p (q.body.length : Int)).toNat _ (by omega) (by rw [Ci])]; omega
  ·show _ = AV.agg [_,AV.imm (List.length (q.body.set _ _)) _]; rw [List.length_set]; rfl
  ·rfl
 ·refine aS (Le.frzC (j := 2) (i := 6) [] rfl rfl (by decide)) ?_
  refine aS (Le.frzC (j := 2) (i := 7) [.imm _ _] rfl rfl (by decide)) ?_
  refine aB rfl ?_
  refine aO ((⟨q.types,q.body.set (aW bs p (q.body.length : Int)).toNat (uX q.body[(aW bs p (q.body.length : Int)).toNat]! (eA bs (p + 1 + 1) [6,-1,0,1]))⟩ : Prg),p + 1 + 1 + 1) ?_ ?_ ⟨sE ?_,trivial⟩
  ·refine ⟨?_,by dsimp only;omega,by dsimp only;omega⟩; dsimp only;rw [iL q.body (aW bs p (q.body.length : Int)).toNat _ (by omega) (by rw [Et])]; omega
  ·show _ = AV.agg [_,AV.imm (List.length (q.body.set _ _)) _]; rw [List.length_set]; rfl
  ·rfl
 ·refine aS (Le.frzC (j := 2) (i := 6) [] rfl rfl (by decide)) ?_
  refine aS (Le.frzC (j := 2) (i := 7) [.imm _ _] rfl rfl (by decide)) ?_
  refine aB rfl ?_
  refine aO ((⟨q.types,q.body.set (aW bs p (q.body.length : Int)).toNat (uY q.body[(aW bs p (q.body.length : Int)).toNat]! (eA bs (p + 1 + 1) [6,-1,0,1]))⟩ : Prg),p + 1 + 1 + 1) ?_ ?_ ⟨sE ?_,trivial⟩
  ·refine ⟨?_,by dsimp only;omega,by dsimp only;omega⟩; dsimp only;rw [iL q.body (aW bs p (q.body.length : Int)).toNat _ (by omega) (by rw [D8])]; omega
  ·show _ = AV.agg [_,AV.imm (List.length (q.body.set _ _)) _]; rw [List.length_set]; rfl
  ·rfl
 ·refine aS (Le.frzC (j := 2) (i := 6) [] rfl rfl (by decide)) ?_
  refine aS (Le.frzC (j := 2) (i := 7) [.imm _ _] rfl rfl (by decide)) ?_
  refine aB rfl ?_
  refine aO ((⟨q.types,q.body.set (aW bs p (q.body.length : Int)).toNat (uN q.body[(aW bs p (q.body.length : Int)).toNat]! (eA bs (p + 1 + 1) [10,-1,5]))⟩ : Prg),p + 1 + 1 + 1) ?_ ?_ ⟨sE ?_,trivial⟩
  ·refine ⟨?_,by dsimp only;omega,by dsimp only;omega⟩; dsimp only;rw [iL q.body (aW bs p (q.body.length : Int)).toNat _ (by omega) (by rw [EK])]; omega
  ·show _ = AV.agg [_,AV.imm (List.length (q.body.set _ _)) _]; rw [List.length_set]; rfl
  ·rfl
 ·refine aS (Le.frzC (j := 2) (i := 11) [] rfl rfl (by decide)) ?_
  refine aS (Le.frzC (j := 2) (i := 7) [.imm _ _] rfl rfl (by decide)) ?_
  refine aB rfl ?_
  refine aO ((⟨q.types ++ [eA bs (p + 1 + 1) [1,5,0,4]],q.body⟩ : Prg),p + 1 + 1 + 1) ?_ ?_ ⟨sE ?_,trivial⟩
  ·exact ⟨by dsimp only;omega,by simp,by dsimp only;omega⟩
  ·show _ = AV.agg [AV.imm (List.length (q.types ++ [_])) _,_]; rw [List.length_append]; rfl
  ·rfl
 ·refine aL (σ := Nat × List AL.Stmt × Nat) [4, 5] [6, 2, 0] (fun k => [(7, iv (k.1 : Int))]) (fun k => [(7, some (flat aH k.2.1)), (8, some [.own 6 0 q.types.length 1, .own 7 0 k.2.2 6])]) (fun k => k.1 ≤ 31 ∧ k.2.1 = q.body ++ List.replicate k.1 q.body[0]! ∧ k.2.2 = k.2.1.length) (fun k => 31 - k.1) (0, q.body, q.body.length) ⟨by omega, by simp, rfl⟩ ?_
  rintro ⟨k,xs,m⟩ ⟨hk,hxs,hm⟩
  dsimp only at hk hxs hm ⊢
  have hln : 0 < xs.length := by rw [hxs,List.length_append]; omega
  have hl2 : xs.length = q.body.length + k := by rw [hxs,List.length_append,List.length_replicate]
  repeat' (first|refine aE ?_|(refine aM ?_ ?_ <;> intro hc hq <;> try (exfalso;omega))|refine cE ?_|fail)
  ·(refine bX (k + 1, _, _) (Le.renA [(7, 10), (8, 8), (6, 6), (2, 2)]) ?_ ?_)
   ·dsimp only
    refine ⟨by omega,?_,by simp [hm]⟩
    have e0 : xs[Int.toNat 0]! = q.body[0]! := by
     show xs[0]! = _
     rw [hxs,getElem!_pos _ _ (by rw [List.length_append]; omega),List.getElem_append_left (by omega),getElem!_pos _ _ (by omega)]
    rw [e0,hxs,List.replicate_succ',List.append_assoc]
   ·dsimp only;omega
  ·have hc0 : bJ q.body[0]! ≤ aK q.body := dM q.body 0 (by omega)
   have hc1 : aK xs = aK q.body + k * bJ q.body[0]! := by rw [hxs,dJ,uC]
   have hc2 : k * bJ q.body[0]! ≤ 31 * aK q.body := Nat.mul_le_mul hk hc0
   subst hm
   refine aS (Le.frzC (j := 2) (i := 6) [] rfl rfl (by decide)) ?_
   refine aS (Le.frzC (j := 2) (i := 7) [.imm _ _] rfl rfl (by decide)) ?_
   refine aB rfl ?_
   refine aO ((⟨q.types,xs⟩ : Prg),p + 1 + 1) ?_ ?_ ⟨sE ?_,trivial⟩
   ·exact ⟨by dsimp only;omega,by dsimp only;omega,by dsimp only;omega⟩
   ·rfl
   ·rfl
 ·have hK : (aW bs p (q.body.length : Int) + 1).toNat = (aW bs p (q.body.length : Int)).toNat + 1 := by omega
  repeat' (first|(apply aD;first|(apply xC;rfl;exact mK rfl (by omega);omega;rfl)|(apply xD;rfl;exact mK rfl (by omega);omega;rfl)|(apply c8;rfl;rfl;rfl;rfl;rfl;(rw [aI]; omega);exact FH rfl (by omega);omega;omega;exact Ft (by omega);rfl;rfl))|refine aE ?_|fail)
  refine aS (Le.frzC (j := 2) (i := 6) [] rfl rfl (by decide)) ?_
  refine aS (Le.frzC (j := 2) (i := 9) [.imm _ _] rfl rfl (by decide)) ?_
  refine aB rfl ?_
  refine aO ((⟨q.types,q.body.take (aW bs p (q.body.length : Int)).toNat ++ q.body.drop (aW bs p (q.body.length : Int) + 1).toNat⟩ : Prg),p + 1 + 1) ?_ ?_ ⟨sE ?_,trivial⟩
  ·refine ⟨?_, by dsimp only; omega, by dsimp only; omega⟩
   dsimp only
   rw [hK]
   have := s7 q.body (aW bs p (q.body.length : Int)).toNat
   omega
  ·show AV.agg [_, AV.imm _ _] = AV.agg [_, AV.imm (List.length (_ ++ _)) _]
   rw [List.length_append,List.length_take,List.length_drop,Nat.min_eq_left (by omega)]
  ·rfl
 ·refine aS (Le.frzC (j := 2) (i := 6) [] rfl rfl (by decide)) ?_
  refine aS (Le.frzC (j := 2) (i := 7) [.imm _ _] rfl rfl (by decide)) ?_
  refine aB rfl ?_
  refine aO (q,p + 1 + 1) ⟨by dsimp only;omega,by dsimp only;omega,by dsimp only;omega⟩ rfl ⟨sE ?_,trivial⟩
  ·rfl
end Go.Proofs.YtahdccneecdmmaaGreat
