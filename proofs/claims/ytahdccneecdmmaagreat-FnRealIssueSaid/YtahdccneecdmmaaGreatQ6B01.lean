/-
 A part of the proofs over this program: rules and contracts of its functions (the contracts).
-/
import Derived.Test.YtahdccneecdmmaaGreatQ6A08
import Derived.Test.YtahdccneecdmmaaGreatRows
set_option linter.unusedVariables false
set_option linter.unusedSimpArgs false
set_option maxHeartbeats 8000000
set_option maxRecDepth 4000
attribute [local irreducible] Go.AL.RW Go.AL.AW Go.AL.Stop
namespace Go.Proofs.YtahdccneecdmmaaGreat
open Go.AL
theorem dT (a b c:Int):PC Tryz.prog 54 [iv a,iv b,iv c] (fun r => r = bv (decide (b ≤ a) && decide (a ≤ c))):=by
 refine aB Tryz.func54 Tryz.ntmps54 ?_
 repeat' (first|refine aE ?_|(refine bQ ?_ ?_ <;> intro hg hq <;> try (exfalso;omega))|refine cZ ?_|fail)
 all_goals (refine ⟨?_,rfl⟩; simp only [aO,AV.v.injEq,Value.bool.injEq,Value.int.injEq,true_and])
 all_goals grind
theorem Cj (t:Int):PC Tryz.prog 234 [iv t] (fun r => r = bv (jD t)):=by
 refine aB Tryz.func234 Tryz.ntmps234 ?_
 repeat' (first|refine aE ?_|(refine bQ ?_ ?_ <;> intro hg hq <;> try (exfalso;omega))|refine cZ ?_|fail)
 all_goals (refine ⟨?_,rfl⟩; simp only [aO,AV.v.injEq,Value.bool.injEq,Value.int.injEq,true_and])
 all_goals grind [jD]
theorem It (t:Int):PC Tryz.prog 260 [iv t] (fun r => r = bv (jD t)):=by
 refine aB Tryz.func260 Tryz.ntmps260 ?_
 repeat' (first|refine aE ?_|(refine bQ ?_ ?_ <;> intro hg hq <;> try (exfalso;omega))|refine cZ ?_|fail)
 all_goals (refine ⟨?_,rfl⟩; simp only [aO,AV.v.injEq,Value.bool.injEq,Value.int.injEq,true_and])
 all_goals grind [jD]
theorem DW (t:Int):PC Tryz.prog 263 [iv t] (fun r => r = bv (decide (t = 2) || jD t)):=by
 refine aB Tryz.func263 Tryz.ntmps263 ?_
 repeat' (first|(apply aF;(apply aA (k := 234);rfl;(apply Cj);(rfl);rfl))|refine aE ?_|(refine bQ ?_ ?_ <;> intro hg hq <;> try (exfalso;omega))|refine cZ ?_|fail)
 all_goals (refine ⟨?_,rfl⟩; simp only [aO,AV.v.injEq,Value.bool.injEq,Value.int.injEq,true_and])
 all_goals grind
theorem EB (t:Int):PC Tryz.prog 230 [iv t] (fun r => r = bv (decide (t = 9) || decide (t = 10))):=by
 refine aB Tryz.func230 Tryz.ntmps230 ?_
 repeat' (first|refine aE ?_|(refine bQ ?_ ?_ <;> intro hg hq <;> try (exfalso;omega))|refine cZ ?_|fail)
 all_goals (refine ⟨?_,rfl⟩; simp only [aO,AV.v.injEq,Value.bool.injEq,Value.int.injEq,true_and])
 all_goals grind
theorem KX (ts:List Int) (v:Int):PC Tryz.prog 264 [sl cI ts,iv v] (fun r => r = iv (fK ts v)):=by
 refine aB Tryz.func264 Tryz.ntmps264 ?_
 repeat' (first|refine aE ?_|(refine aK ?_ ?_ <;> intro hc hq <;> try (exfalso;omega))|(refine bQ ?_ ?_ <;> intro hg hq <;> try (exfalso;omega))|refine cZ ?_|fail)
 all_goals (refine ⟨?_,rfl⟩; simp only [aO,AV.v.injEq,Value.bool.injEq,Value.int.injEq,true_and])
 all_goals grind [fK]
theorem JN (ts:List Int) (v:Int) (hl:ts.length ≤ 1000000):PC Tryz.prog 55 [sl cI ts,iv v] (fun r => r = iv (fK ts v)):=by
 refine aB Tryz.func55 Tryz.ntmps55 ?_
 repeat' (first|(apply aF;(apply aA (k := 54);rfl;(apply dT);(rfl);rfl))|refine aE ?_|(refine aK ?_ ?_ <;> intro hc hq <;> try (exfalso;omega))|refine cZ ?_|fail)
 all_goals (refine ⟨?_,rfl⟩; simp only [aO,AV.v.injEq,Value.bool.injEq,Value.int.injEq,true_and])
 all_goals grind [fK]
theorem D7 (ts:List Int) (s:AL.Stmt) (hl:b0 ts = true):PC Tryz.prog 231 [sl cI ts,e6 s] (fun r => r = bv (s.th.isEmpty && s.el.isEmpty && dO ts s)):=by
 have hl2 := iV hl
 have hx := jP hl s.x
 have hy := jP hl s.y
 refine aB Tryz.func231 Tryz.ntmps231 ?_
 repeat' (first|(apply aF;(first|(apply aA (k := 54);rfl;(apply dT);(rfl);rfl)|(apply aA (k := 55);rfl;(apply JN <;> (omega));exact Pur.pf;rfl)|(apply aA (k := 263);rfl;(apply DW);(rfl);rfl)))|refine aE ?_|(refine aK ?_ ?_ <;> intro hc hq <;> try (exfalso;omega))|(refine bQ ?_ ?_ <;> intro hg hq <;> try (exfalso;omega))|refine bS ?_|refine cZ ?_|fail)
 all_goals (refine ⟨?_,rfl⟩; simp only [aO,AV.v.injEq,Value.bool.injEq,Value.int.injEq,true_and])
 all_goals (cases hth : s.th <;> cases hel : s.el <;> simp only [hth,hel,List.length_nil,List.length_cons,List.isEmpty_nil,List.isEmpty_cons,Bool.true_and,Bool.false_and] at *)
 all_goals (try unfold dO)
 all_goals (try simp only [jD,Bool.or_eq_true,Bool.or_eq_false_iff,decide_eq_true_eq,decide_eq_false_iff_not] at *)
 all_goals grind
theorem Ei (ts:List Int) (s:AL.Stmt) (hl:b0 ts = true):PC Tryz.prog 238 [sl cI ts,e6 s] (fun r => r = bv (dO ts s)):=by
 have hl2 := iV hl
 have hx := jP hl s.x
 have hy := jP hl s.y
 refine aB Tryz.func238 Tryz.ntmps238 ?_
 repeat' (first|(apply aF;(apply aA (k := 264);rfl;(apply KX);exact Pur.pf;rfl))|refine aE ?_|(refine aK ?_ ?_ <;> intro hc hq <;> try (exfalso;omega))|(refine bQ ?_ ?_ <;> intro hg hq <;> try (exfalso;omega))|refine cZ ?_|fail)
 all_goals (refine ⟨?_,rfl⟩; simp only [aO,AV.v.injEq,Value.bool.injEq,Value.int.injEq,true_and])
 all_goals (try unfold dO)
 all_goals grind
theorem Gm (ts:List Int) (hl:b0 ts = true) (m:Nat) (ih:∀ l (d:Int),aT l < m → 0 ≤ d → d ≤ 1000 → PC Tryz.prog 128 [sl cI ts,sl aN l,iv d] (fun r => r = bv (okL ts d.toNat l))) (s:AL.Stmt) (d:Int) (hs:cM s ≤ m) (hd0:0 ≤ d) (hd:d ≤ 1000) :
  PC Tryz.prog 195 [sl cI ts,e6 s,iv d] (fun r => r = bv (wI ts d.toNat s)) := by
 rw [Nx ts d hd0]
 refine aB Tryz.func195 Tryz.ntmps195 ?_
 repeat' (first|(apply aF;(first|(apply aA (k := 128);rfl;(apply ih <;> (first|omega|(have := lS s;omega)));exact Pur.pf;rfl)|(apply aA (k := 238);rfl;(apply Ei <;> (assumption));exact Pur.pf;rfl)))|refine aE ?_|(refine aK ?_ ?_ <;> intro hc hq <;> try (exfalso;omega))|(refine bQ ?_ ?_ <;> intro hg hq <;> try (exfalso;omega))|refine cZ ?_|fail)
 all_goals (refine ⟨?_,rfl⟩; simp only [aO,AV.v.injEq,Value.bool.injEq,Value.int.injEq,true_and])
 all_goals (cases hth : s.th <;> cases hel : s.el <;> simp only [hth,hel,List.length_nil,List.length_cons,List.isEmpty_nil,List.isEmpty_cons,Bool.true_and,Bool.false_and] at *)
 all_goals grind
theorem HT (ts:List Int) (hl:b0 ts = true) (m:Nat) (ih:∀ s (d:Int),cM s ≤ m → 0 ≤ d → d ≤ 1000 → PC Tryz.prog 195 [sl cI ts,e6 s,iv d] (fun r => r = bv (wI ts d.toNat s))) (l:List AL.Stmt) (d:Int) (hs:aT l ≤ m) (hm:m ≤ 100000000) (hd0:0 ≤ d) (hd:d ≤ 1000) :
  PC Tryz.prog 128 [sl cI ts,sl aN l,iv d] (fun r => r = bv (okL ts d.toNat l)) := by
 have hlen := eE l
 refine aB Tryz.func128 Tryz.ntmps128 ?_
 repeat' (first|refine aE ?_|fail)
 refine aH (σ := Nat) [0,1,2] [] (fun k => [(7,iv (k : Int))]) (fun k => []) (fun k => k ≤ l.length ∧ ∀ i,i < k → wI ts d.toNat l[i]! = true) (fun k => l.length - k) (0) ⟨by omega,by omega⟩ ?_
 intro k ⟨hk,hall⟩
 have hck := gT l k
 repeat' (first|(apply aF;(apply aA (k := 195);rfl;(apply ih _ d (Nat.le_trans (hck (by omega)) hs) hd0 hd);exact Pur.pf;rfl))|refine aE ?_|(refine aK ?_ ?_ <;> intro hc hq <;> try (exfalso;omega))|refine cZ ?_|fail)
 ·(refine ⟨?_, rfl⟩; simp only [aO, AV.v.injEq, Value.bool.injEq, Value.int.injEq, true_and])
  rw [KS (k := k) (by omega) hq]
 ·(refine bC (k + 1) (Le.renA []) ?_ ?_)
  ·grind
  ·omega
 ·(refine ⟨?_, rfl⟩; simp only [aO, AV.v.injEq, Value.bool.injEq, Value.int.injEq, true_and])
  rw [NX (fun i hi => hall i (by omega))]
theorem Nq (ts:List Int) (hl:b0 ts = true):∀ (m:Nat),m ≤ 100000000 → (∀ s (d:Int),cM s ≤ m → 0 ≤ d → d ≤ 1000 → PC Tryz.prog 195 [sl cI ts,e6 s,iv d] (fun r => r = bv (wI ts d.toNat s))) ∧
  (∀ l (d : Int),aT l ≤ m → 0 ≤ d → d ≤ 1000 → PC Tryz.prog 128 [sl cI ts,sl aN l,iv d] (fun r => r = bv (okL ts d.toNat l))) := by
 intro m
 induction m using Nat.strongRecOn with
 | ind m ih =>
  intro hm
  have h1 : ∀ s (d : Int), cM s ≤ m → 0 ≤ d → d ≤ 1000 → PC Tryz.prog 195 [sl cI ts, e6 s, iv d] (fun r => r = bv (wI ts d.toNat s)) :=
   fun s d h1 h2 h3 => Gm ts hl m (fun l d' g1 g2 g3 => (ih (aT l) g1 (by omega)).2 l d' (Nat.le_refl _) g2 g3) s d h1 h2 h3
  exact ⟨h1,fun l d g1 g2 g3 => HT ts hl m h1 l d g1 hm g2 g3⟩
theorem EE (m0:Nat) (ih:∀ l (most:Int),aT l < m0 → -1 ≤ most → most ≤ 1000 → PC Tryz.prog 129 [sl aN l,iv most] (fun r => r = iv (oJ most 0 l))) (l:List AL.Stmt) (most:Int) (hs:aT l ≤ m0) (hm:m0 ≤ 100000000) (hd0:-1 ≤ most) (hd:most ≤ 1000) :
  PC Tryz.prog 129 [sl aN l,iv most] (fun r => r = iv (oJ most 0 l)) := by
 have hlen := eE l
 have hall := mX l most 0
 refine aB Tryz.func129 Tryz.ntmps129 ?_
 repeat' (first|refine aE ?_|fail)
 refine aH (σ := Nat × Int) [0,1] [] (fun k => [(6,iv (k.1 : Int)),(5,iv k.2)]) (fun k => []) (fun k => k.1 ≤ l.length ∧ oJ most k.2 (l.drop k.1) = oJ most 0 l ∧ 0 ≤ k.2 ∧ k.2 ≤ aT l) (fun k => l.length - k.1) (0,0) ⟨by omega,rfl,by omega,by omega⟩ ?_
 rintro ⟨k,n⟩ ⟨hk,hn,hn0,hn1⟩
 dsimp only at hk hn hn0 hn1 ⊢
 have hck := gT l k
 have hct := lS l[k]!
 have b1 := mX l[k]!.th (most - n) 0
 have b2 := fun z => mX l[k]!.el z 0
 have b3 := Jy l[k]! most n
 have b4 := mX (l.drop (k + 1)) most (J2 most n l[k]!)
 have b5 := Ky most n l k
 rw [No] at b3 b4 b5
 repeat' (first|(apply aF;(apply aA (k := 129);rfl;(apply ih <;> omega);exact Pur.pf;rfl))|refine aE ?_|(refine aK ?_ ?_ <;> intro hc hq <;> try (exfalso;omega))|(refine bQ ?_ ?_ <;> intro hg hq <;> try (exfalso;omega))|refine cZ ?_|fail)
 ·(refine bC (k + 1, n + 1 + oJ (most - n) 0 l[k]!.th + oJ (most - (n + 1 + oJ (most - n) 0 l[k]!.th)) 0 l[k]!.el) (Le.renA []) ?_ ?_)
  ·dsimp only;grind
  ·dsimp only;omega
 ·(refine bC (k + 1, n + 1 + oJ (most - n) 0 l[k]!.th) (Le.renA []) ?_ ?_)
  ·dsimp only;grind
  ·dsimp only;omega
 ·(refine ⟨?_, rfl⟩; simp only [aO, AV.v.injEq, Value.bool.injEq, Value.int.injEq, true_and])
  rw [← hn,Ly _ _ _ (by omega)]
 ·(refine ⟨?_, rfl⟩; simp only [aO, AV.v.injEq, Value.bool.injEq, Value.int.injEq, true_and])
  rw [← hn,L7 _ _ _ _ (by omega)]
theorem HW (l:List AL.Stmt) (most:Int) (hs:aT l ≤ 100000000) (hd0:-1 ≤ most) (hd:most ≤ 1000) :
  PC Tryz.prog 129 [sl aN l,iv most] (fun r => r = iv (oJ most 0 l)) := by
 have h : ∀ (m : Nat), m ≤ 100000000 → ∀ l (most : Int), aT l ≤ m → -1 ≤ most → most ≤ 1000 → PC Tryz.prog 129 [sl aN l, iv most] (fun r => r = iv (oJ most 0 l)) := by
  intro m
  induction m using Nat.strongRecOn with
  | ind m ih =>
   intro hm l most h1 h2 h3
   exact EE m (fun l' most' g1 g2 g3 => ih _ g1 (by omega) l' most' (Nat.le_refl _) g2 g3) l most h1 hm h2 h3
 exact h _ hs l most (Nat.le_refl _) hd0 hd
theorem KR (ts:List Int) (l:List AL.Stmt) (d:Int) (hl:b0 ts = true) (hs:aT l ≤ 100000000) (hd0:0 ≤ d) (hd:d ≤ 1000):PC Tryz.prog 128 [sl cI ts,sl aN l,iv d] (fun r => r = bv (okL ts d.toNat l)) :=
 (Nq ts hl _ hs).2 l d (Nat.le_refl _) hd0 hd
theorem y5 (ts:List Int) (hl:ts.length ≤ 1000000):PC Tryz.prog 127 [sl cI ts] (fun r => r = bv (b0 ts)):=by
 refine aB Tryz.func127 Tryz.ntmps127 ?_
 repeat' (first|refine aE ?_|fail)
 refine aH (σ := Nat) [0] [] (fun k => [(3,iv (k : Int))]) (fun k => []) (fun k => k ≤ ts.length ∧ ∀ i,i < k → 1 ≤ ts[i]! ∧ ts[i]! ≤ 4) (fun k => ts.length - k) (0) ⟨by omega,by omega⟩ ?_
 intro k ⟨hk,hall⟩
 repeat' (first|refine aE ?_|(refine aK ?_ ?_ <;> intro hc hq <;> try (exfalso;omega))|(refine bQ ?_ ?_ <;> intro hg hq <;> try (exfalso;omega))|refine cZ ?_|fail)
 ·(refine ⟨?_, rfl⟩; simp only [aO, AV.v.injEq, Value.bool.injEq, Value.int.injEq, true_and])
  unfold b0;grind [nP,kL]
 ·(refine bC (k + 1) (Le.renA []) ?_ ?_)
  ·grind
  ·omega
 ·(refine ⟨?_, rfl⟩; simp only [aO, AV.v.injEq, Value.bool.injEq, Value.int.injEq, true_and])
  unfold b0;grind [nP,kL]
 ·(refine ⟨?_, rfl⟩; simp only [aO, AV.v.injEq, Value.bool.injEq, Value.int.injEq, true_and])
  unfold b0;grind [nP,kL]
theorem j6 (p:Prg) (hl:p.types.length ≤ 1000000) (hs:aT p.body ≤ 100000000):PC Tryz.prog 61 [bK p] (fun r => r = bv (bB p)):=by
 unfold bB
 cases ht : b0 p.types
 ·refine aB Tryz.func61 Tryz.ntmps61 ?_
  repeat' (first|(apply aF;(apply aA (k := 127);rfl;(apply y5 <;> (assumption));exact Pur.pf;rfl))|refine aE ?_|refine cZ ?_|fail)
  (refine ⟨?_,rfl⟩; simp only [aO,AV.v.injEq,Value.bool.injEq,Value.int.injEq,true_and])
  rfl
 ·refine aB Tryz.func61 Tryz.ntmps61 ?_
  repeat' (first|(apply aF;(first|(apply aA (k := 127);rfl;(apply y5 <;> (assumption));exact Pur.pf;rfl)|(apply aA (k := 128);rfl;(apply KR <;> (first|assumption|omega));exact Pur.pf;rfl)|(apply aA (k := 129);rfl;(apply HW <;> (first|assumption|omega));exact Pur.pf;rfl)))|refine aE ?_|(refine bQ ?_ ?_ <;> intro hg hq <;> try (exfalso;omega))|refine cZ ?_|fail)
  ·(refine ⟨?_, rfl⟩; simp only [aO, AV.v.injEq, Value.bool.injEq, Value.int.injEq, true_and])
   rw [show okL p.types 4 p.body = true from hq]; simp only [Bool.true_and,Qo,decide_eq_decide]; omega
  ·(refine ⟨?_, rfl⟩; simp only [aO, AV.v.injEq, Value.bool.injEq, Value.int.injEq, true_and])
   rw [show okL p.types 4 p.body = false from hq]; rfl
end Go.Proofs.YtahdccneecdmmaaGreat
namespace Go.Proofs.YtahdccneecdmmaaGreat
open Go.AL Go.RowKit
variable {N : Nat} {Q : Exit → AS → Prop} {all : Array Oper} {rest : List Oper} {tsl : List (Nat × AV)} {hsl : List (Nat × Option (List AV))} {nidl : Nat} {z0 : Lo} {md : Md} {d : Nat} {ty : TypeId} {pos : String} {af : Array Edge} {tys : Array TypeId}
theorem Mg {ts:List Int}{s:AL.Stmt}{nest c:Int}{x0 x1 x2 x3:Operand}{i0:Nat}(ha0:ev (lk tsl) x0 = some (sl cI ts)) (ha1:ev (lk tsl) x1 = some (e6 s)) (ha2:ev (lk tsl) x2 = some (iv nest)) (ha3:ev (lk tsl) x3 = some (.optr i0 0)) (hH0:aV hsl i0 = some ([iv c])) (hmc:MC Tryz.prog 180 [sl cI ts,e6 s,iv nest,.optr 0 0] [(0,some ([iv c]))] 1 (fun _:Unit => True) (fun _ => bv (mN ts nest c s).1) (fun _ => [(0,some ([iv (mN ts nest c s).2]))])) (hM:Nat.ble (nidl + 0) a6 = true) (hN:Nat.blt d N = true){md':Md}[hmd:MdA md (fI [x0,x1,x2,x3] ++ [.inr i0]) (List.map Sum.inr (List.map Prod.fst ([(i0,some ([iv (mN ts nest c s).2]))]:List (Nat × Option (List AV)))) ++ [.inl d]) md'] (kk:RW Tryz.prog N all Q md' rest ⟨(d,bv (mN ts nest c s).1) :: tsl,gE hsl [(i0,some ([iv (mN ts nest c s).2]))],nidl + 0,z0⟩):RW Tryz.prog N all Q md (⟨some d,.call ⟨.value (.func 180),#[x0,x1,x2,x3],tys⟩,ty,pos,af,none⟩ :: rest) ⟨tsl,hsl,nidl,z0⟩:=by
 exact aX (l := [x0,x1,x2,x3]) [i0] 1 [(i0,some ([iv (mN ts nest c s).2]))] hmc (avs := [sl cI ts,e6 s,iv nest,.optr i0 0]) (by simp only [evL,ha0,ha1,ha2,ha3]) rfl hM hN (md' := md') (hmd := hmd) kk
theorem wO {ts:List Int}{l:List AL.Stmt}{nest c:Int}{x0 x1 x2 x3:Operand}{i0:Nat}(ha0:ev (lk tsl) x0 = some (sl cI ts)) (ha1:ev (lk tsl) x1 = some (sl aN l)) (ha2:ev (lk tsl) x2 = some (iv nest)) (ha3:ev (lk tsl) x3 = some (.optr i0 0)) (hH0:aV hsl i0 = some ([iv c])) (hmc:MC Tryz.prog 101 [sl cI ts,sl aN l,iv nest,.optr 0 0] [(0,some ([iv c]))] 1 (fun _:Unit => True) (fun _ => bv (kT ts nest c l).1) (fun _ => [(0,some ([iv (kT ts nest c l).2]))])) (hM:Nat.ble (nidl + 0) a6 = true) (hN:Nat.blt d N = true){md':Md}[hmd:MdA md (fI [x0,x1,x2,x3] ++ [.inr i0]) (List.map Sum.inr (List.map Prod.fst ([(i0,some ([iv (kT ts nest c l).2]))]:List (Nat × Option (List AV)))) ++ [.inl d]) md'] (kk:RW Tryz.prog N all Q md' rest ⟨(d,bv (kT ts nest c l).1) :: tsl,gE hsl [(i0,some ([iv (kT ts nest c l).2]))],nidl + 0,z0⟩):RW Tryz.prog N all Q md (⟨some d,.call ⟨.value (.func 101),#[x0,x1,x2,x3],tys⟩,ty,pos,af,none⟩ :: rest) ⟨tsl,hsl,nidl,z0⟩:=by
 exact aX (l := [x0,x1,x2,x3]) [i0] 1 [(i0,some ([iv (kT ts nest c l).2]))] hmc (avs := [sl cI ts,sl aN l,iv nest,.optr i0 0]) (by simp only [evL,ha0,ha1,ha2,ha3]) rfl hM hN (md' := md') (hmd := hmd) kk
theorem Nc (ts:List Int) (htO:b0 ts = true) (m:Nat) (scanAll_ih:∀ l nest c,aT l < m → 0 ≤ nest → nest ≤ 4 → 0 ≤ c → c ≤ 30 → MC Tryz.prog 101 [sl cI ts,sl aN l,iv nest,.optr 0 0] [(0,some ([iv c]))] 1 (fun _:Unit => True) (fun _ => bv (kT ts nest c l).1) (fun _ => [(0,some ([iv (kT ts nest c l).2]))])) (s:AL.Stmt) (nest c:Int) (hs:cM s ≤ m) (hn0:0 ≤ nest) (hn:nest ≤ 4) (hc0:0 ≤ c) (hc:c ≤ 30):MC Tryz.prog 180 [sl cI ts,e6 s,iv nest,.optr 0 0] [(0,some ([iv c]))] 1 (fun _:Unit => True) (fun _ => bv (mN ts nest c s).1) (fun _ => [(0,some ([iv (mN ts nest c s).2]))]):=by
 have ct := lS s
 have hb1 := Qq ts s.th (nest + 1) (c + 1)
 refine aW Tryz.func180 Tryz.ntmps180 ?_
 repeat' (first|(apply aF;(first|(apply wO;rfl;rfl;rfl;rfl;(rfl);(apply scanAll_ih <;> (first|assumption|omega|grind));rfl;rfl)|(apply aA (k := 230);rfl;(apply EB);(rfl);rfl)|(apply aA (k := 231);rfl;(apply D7 <;> (assumption));exact Pur.pf;rfl)))|refine aE ?_|(refine aK ?_ ?_ <;> intro hc hq <;> try (exfalso;omega))|(refine bQ ?_ ?_ <;> intro hg hq <;> try (exfalso;omega))|fail)
 all_goals (refine aC rfl ?_; refine aS () trivial ?_ ⟨sE ?_,trivial⟩)
 all_goals (try simp only [aO,AV.v.injEq,Value.bool.injEq,Value.int.injEq,true_and,g6,List.take,List.drop,List.length,List.append,List.nil_append,List.append_nil,Option.some.injEq,List.cons.injEq,and_true])
 all_goals rw [Mp]
 all_goals clear scanAll_ih
 all_goals (cases hel : s.el <;> simp only [hel,List.length_nil,List.length_cons] at * <;> grind)
theorem Ee (ts:List Int) (m:Nat) (hm:m ≤ 100000000) (scan_ih:∀ s nest c,cM s ≤ m → 0 ≤ nest → nest ≤ 4 → 0 ≤ c → c ≤ 30 → MC Tryz.prog 180 [sl cI ts,e6 s,iv nest,.optr 0 0] [(0,some ([iv c]))] 1 (fun _:Unit => True) (fun _ => bv (mN ts nest c s).1) (fun _ => [(0,some ([iv (mN ts nest c s).2]))])) (l:List AL.Stmt) (nest c:Int) (hs:aT l ≤ m) (hn0:0 ≤ nest) (hn:nest ≤ 4) (hc0:0 ≤ c) (hc:c ≤ 30):MC Tryz.prog 101 [sl cI ts,sl aN l,iv nest,.optr 0 0] [(0,some ([iv c]))] 1 (fun _:Unit => True) (fun _ => bv (kT ts nest c l).1) (fun _ => [(0,some ([iv (kT ts nest c l).2]))]):=by
 have hlen := eE l
 refine aW Tryz.func101 Tryz.ntmps101 ?_
 repeat' (first|refine aE ?_|fail)
 refine aH (σ := Nat × Int) [0,2,3,11,12] [] (fun k => [(13,iv (k.1 : Int))]) (fun k => [(0,some [iv k.2])]) (fun k => k.1 ≤ l.length ∧ kT ts nest k.2 (l.drop k.1) = kT ts nest c l ∧ 0 ≤ k.2 ∧ k.2 ≤ 30) (fun k => l.length - k.1) (0,c) ⟨by omega,rfl,by omega,by omega⟩ ?_
 rintro ⟨k,c'⟩ ⟨hk,hn,hn0,hn1⟩
 dsimp only at hk hn hn0 hn1 ⊢
 have hck := gT l k
 have hb1 := O5 ts l[k]! nest c'
 have hst := @scL_stop ts nest c' l k
 repeat' (first|(apply aF;(apply Mg;rfl;rfl;rfl;rfl;(rfl);(apply scan_ih <;> (first|assumption|omega));rfl;rfl))|refine aE ?_|(refine aK ?_ ?_ <;> intro hc hq <;> try (exfalso;omega))|fail)
 ·(refine aC rfl ?_; refine aS () trivial ?_ ⟨sE ?_, trivial⟩)
  all_goals (try simp only [aO,AV.v.injEq,Value.bool.injEq,Value.int.injEq,true_and,g6,List.take,List.drop,List.length,List.append,List.nil_append,List.append_nil,Option.some.injEq,List.cons.injEq,and_true])
  all_goals (rw [← hn,hst (by omega)]; grind)
 ·(refine bC (k + 1, (mN ts nest c' l[k]!).2) (Le.renA []) ?_ ?_)
  ·dsimp only;grind
  ·dsimp only;omega
 ·(refine aC rfl ?_; refine aS () trivial ?_ ⟨sE ?_, trivial⟩)
  all_goals (try simp only [aO,AV.v.injEq,Value.bool.injEq,Value.int.injEq,true_and,g6,List.take,List.drop,List.length,List.append,List.nil_append,List.append_nil,Option.some.injEq,List.cons.injEq,and_true])
  all_goals (rw [← hn,List.drop_of_length_le (by omega),kT])
theorem Gr (ts:List Int) (hl:b0 ts = true):∀ (m:Nat),m ≤ 100000000 → (∀ s (nest c:Int),cM s ≤ m → 0 ≤ nest → nest ≤ 4 → 0 ≤ c → c ≤ 30 → MC Tryz.prog 180 [sl cI ts,e6 s,iv nest,.optr 0 0] [(0,some ([iv c]))] 1 (fun _:Unit => True) (fun _ => bv (mN ts nest c s).1) (fun _ => [(0,some ([iv (mN ts nest c s).2]))])) ∧
  (∀ l (nest c : Int),aT l ≤ m → 0 ≤ nest → nest ≤ 4 → 0 ≤ c → c ≤ 30 → MC Tryz.prog 101 [sl cI ts,sl aN l,iv nest,.optr 0 0] [(0,some ([iv c]))] 1 (fun _ : Unit => True) (fun _ => bv (kT ts nest c l).1) (fun _ => [(0,some ([iv (kT ts nest c l).2]))])) := by
 intro m
 induction m using Nat.strongRecOn with
 | ind m ih =>
  intro hm
  have h1 : ∀ s (nest c : Int), cM s ≤ m → 0 ≤ nest → nest ≤ 4 → 0 ≤ c → c ≤ 30 → MC Tryz.prog 180 [sl cI ts, e6 s, iv nest, .optr 0 0] [(0, some ([iv c]))] 1 (fun _ : Unit => True) (fun _ => bv (mN ts nest c s).1) (fun _ => [(0, some ([iv (mN ts nest c s).2]))]) :=
   fun s nest c h1 h2 h3 h4 h5 => Nc ts hl m (fun l nest c g1 g2 g3 g4 g5 => (ih (aT l) g1 (by omega)).2 l nest c (Nat.le_refl _) g2 g3 g4 g5) s nest c h1 h2 h3 h4 h5
  exact ⟨h1,fun l nest c g1 g2 g3 g4 g5 => Ee ts m hm h1 l nest c g1 g2 g3 g4 g5⟩
theorem Gv (ts:List Int) (l:List AL.Stmt) (nest c:Int) (hl:b0 ts = true) (hs:aT l ≤ 100000000) (hn0:0 ≤ nest) (hn:nest ≤ 4) (hc0:0 ≤ c) (hc:c ≤ 30):MC Tryz.prog 101 [sl cI ts,sl aN l,iv nest,.optr 0 0] [(0,some ([iv c]))] 1 (fun _:Unit => True) (fun _ => bv (kT ts nest c l).1) (fun _ => [(0,some ([iv (kT ts nest c l).2]))]) :=
 (Gr ts hl _ hs).2 l nest c (Nat.le_refl _) hn0 hn hc0 hc
theorem Dg (t:Int):PC Tryz.prog 179 [iv t] (fun r => r = bv (!(decide (1 ≤ t) && decide (t ≤ 4)))):=by
 refine aB Tryz.func179 Tryz.ntmps179 ?_
 repeat' (first|(apply aF;(apply aA (k := 54);rfl;(apply dT);(rfl);rfl))|refine aE ?_|refine cZ ?_|fail)
 all_goals (refine ⟨?_,rfl⟩; simp only [aO,AV.v.injEq,Value.bool.injEq,Value.int.injEq,true_and])
def vY (ts : List Int) : Int := match ts.findIdx? (fun t => !(decide (1 ≤ t) && decide (t ≤ 4))) with | some i => i | none => -1
theorem K4 (ts:List Int) (hl:ts.length ≤ 1000000):PC Tryz.prog 216 [sl cI ts,.v (.func (.func 179) #[] #[])] (fun r => r = iv (vY ts)):=by
 refine aB Tryz.func216 Tryz.ntmps216 ?_
 repeat' (first|refine aE ?_|fail)
 refine aH (σ := Nat) [0,1,7] [] (fun k => [(8,iv (k : Int))]) (fun k => []) (fun k => k ≤ ts.length ∧ ∀ i,i < k → 1 ≤ ts[i]! ∧ ts[i]! ≤ 4) (fun k => ts.length - k) (0) ⟨by omega,by omega⟩ ?_
 intro k ⟨hk,hall⟩
 repeat' (first|(apply aF;(apply gG;rfl;rfl;infer_instance;rfl;(apply Dg);(rfl);rfl))|refine aE ?_|(refine aK ?_ ?_ <;> intro hc hq <;> try (exfalso;omega))|refine cZ ?_|fail)
 ·(refine ⟨?_, rfl⟩; simp only [aO, AV.v.injEq, Value.bool.injEq, Value.int.injEq, true_and])
  have hlt : k < ts.length := by omega
  have : ts.findIdx? (fun t => !(decide (1 ≤ t) && decide (t ≤ 4))) = some k := by
   rw [List.findIdx?_eq_some_iff_getElem]
   refine ⟨hlt,?_,fun j hj => ?_⟩
   ·rw [← aZ ts k hlt]; grind
   ·have := hall j hj;rw [aZ ts j (by omega)] at this;simp;omega
  simp only [vY,this]
 ·(refine bC (k + 1) (Le.renA []) ?_ ?_)
  ·grind
  ·omega
 ·(refine ⟨?_, rfl⟩; simp only [aO, AV.v.injEq, Value.bool.injEq, Value.int.injEq, true_and])
  have : ts.findIdx? (fun t => !(decide (1 ≤ t) && decide (t ≤ 4))) = none := by
   rw [List.findIdx?_eq_none_iff]
   intro x hx
   obtain ⟨i,hi,rfl⟩ := List.getElem_of_mem hx
   have := hall i (by omega);rw [aZ ts i hi] at this;simp;omega
  simp only [vY,this]
theorem Gl (ts:List Int):decide (0 ≤ vY ts) = !(ts.all (fun t => decide (1 ≤ t) && decide (t ≤ 4))):=by
 unfold vY
 split
 ·rename_i i h
  obtain ⟨h1,h2,_⟩ := List.findIdx?_eq_some_iff_getElem.1 h
  have : ts.all (fun t => decide (1 ≤ t) && decide (t ≤ 4)) = false := by
   rw [List.all_eq_false]; exact ⟨ts[i],List.getElem_mem h1,by simp at h2 ⊢; omega⟩
  rw [this]; simp
 ·rename_i h
  rw [List.findIdx?_eq_none_iff] at h
  have : ts.all (fun t => decide (1 ≤ t) && decide (t ≤ 4)) = true := by
   rw [List.all_eq_true]; intro x hx;simpa using h x hx
  rw [this]; rfl
theorem GM (ts:List Int) (hl:ts.length ≤ 1000000):PC Tryz.prog 157 [sl cI ts,.v (.func (.func 179) #[] #[])] (fun r => r = bv (!(ts.all (fun t => decide (1 ≤ t) && decide (t ≤ 4))))):=by
 refine aB Tryz.func157 Tryz.ntmps157 ?_
 repeat' (first|(apply aF;(apply aA (k := 216);rfl;(apply K4 <;> (assumption));exact Pur.pf;rfl))|refine aE ?_|refine cZ ?_|fail)
 (refine ⟨?_,rfl⟩; simp only [aO,AV.v.injEq,Value.bool.injEq,Value.int.injEq,true_and])
 exact Gl ts
theorem vU (ts:List Int) (hl:ts.length ≤ 1000000):PC Tryz.prog 100 [sl cI ts] (fun r => r = bv (b0 ts)):=by
 refine aB Tryz.func100 Tryz.ntmps100 ?_
 repeat' (first|(apply aF;(apply aA (k := 157);rfl;(apply GM <;> (assumption));exact Pur.pf;rfl))|refine aE ?_|(refine bQ ?_ ?_ <;> intro hg hq <;> try (exfalso;omega))|refine cZ ?_|fail)
 all_goals (refine ⟨?_,rfl⟩; simp only [aO,AV.v.injEq,Value.bool.injEq,Value.int.injEq,true_and])
 all_goals (unfold b0;grind)
theorem CC (p:Prg) (hl:p.types.length ≤ 1000000) (hs:aT p.body ≤ 100000000):PC Tryz.prog 39 [bK p] (fun r => r = bv (bB p)):=by
 rw [← Hr]
 cases ht : b0 p.types
 ·refine aB Tryz.func39 Tryz.ntmps39 ?_
  repeat' (first|(apply aF;(apply aA (k := 100);rfl;(apply vU <;> (assumption));exact Pur.pf;rfl))|refine aE ?_|refine cZ ?_|fail)
  all_goals (refine ⟨?_,rfl⟩; simp only [aO,AV.v.injEq,Value.bool.injEq,Value.int.injEq,true_and])
  all_goals grind
 ·refine aB Tryz.func39 Tryz.ntmps39 ?_
  repeat' (first|(apply aF;(first|(apply aA (k := 100);rfl;(apply vU <;> (assumption));exact Pur.pf;rfl)|(apply wO;rfl;rfl;rfl;rfl;(rfl);(apply Gv <;> (first|assumption|omega));rfl;rfl)))|refine aE ?_|refine cZ ?_|fail)
  all_goals (refine ⟨?_,rfl⟩; simp only [aO,AV.v.injEq,Value.bool.injEq,Value.int.injEq,true_and])
  all_goals grind
theorem s7 {l:List AL.Stmt}{pts:List Pnt}{m:Nat}{x0 x1:Operand}{i0:Nat}(ha0:ev (lk tsl) x0 = some (sl aN l)) (ha1:ev (lk tsl) x1 = some (.own i0 0 m 5)) (hH0:aV hsl i0 = some (flat cE pts)) (hmc:MC Tryz.prog 122 [sl aN l,.own 0 0 m 5] [(0,some (flat cE pts))] 1 (fun _:Unit => True) (fun _ => .own 1 0 (m + c9 l) 5) (fun _ => [(1,some (flat cE (pts ++ gQ pts.length l)))])) (hM:Nat.ble (nidl + 1) a6 = true) (hN:Nat.blt d N = true){md':Md}[hmd:MdA md (fI [x0,x1] ++ [.inr i0]) (List.map Sum.inr (List.map Prod.fst ([(nidl,some (flat cE (pts ++ gQ pts.length l))),(i0,none)]:List (Nat × Option (List AV)))) ++ [.inl d]) md'] (kk:RW Tryz.prog N all Q md' rest ⟨(d,.own nidl 0 (m + c9 l) 5) :: tsl,gE hsl [(nidl,some (flat cE (pts ++ gQ pts.length l))),(i0,none)],nidl + 1,z0⟩):RW Tryz.prog N all Q md (⟨some d,.call ⟨.value (.func 122),#[x0,x1],tys⟩,ty,pos,af,none⟩ :: rest) ⟨tsl,hsl,nidl,z0⟩:=by
 exact aX (l := [x0,x1]) [i0] 2 [(nidl,some (flat cE (pts ++ gQ pts.length l))),(i0,none)] hmc (avs := [sl aN l,.own i0 0 m 5]) (by simp only [evL,ha0,ha1]) rfl hM hN (md' := md') (hmd := hmd) kk
theorem CB (mm:Nat) (hmm:mm ≤ 1000000) (pointsOf_ih:∀ l pts m,aT l < mm → m = pts.length → m + c9 l ≤ 12000000 → MC Tryz.prog 122 [sl aN l,.own 0 0 m 5] [(0,some (flat cE pts))] 1 (fun _:Unit => True) (fun _ => .own 1 0 (m + c9 l) 5) (fun _ => [(1,some (flat cE (pts ++ gQ pts.length l)))])) (l:List AL.Stmt) (pts:List Pnt) (m:Nat) (hs:aT l ≤ mm) (hm:m = pts.length) (hb:m + c9 l ≤ 12000000):MC Tryz.prog 122 [sl aN l,.own 0 0 m 5] [(0,some (flat cE pts))] 1 (fun _:Unit => True) (fun _ => .own 1 0 (m + c9 l) 5) (fun _ => [(1,some (flat cE (pts ++ gQ pts.length l)))]):=by
 have hlen := eE l
 subst hm
 refine aW Tryz.func122 Tryz.ntmps122 ?_
 repeat' (first|refine aE ?_|fail)
 refine AW.le ?_ (Le.mv (d := 1) (i := 0) (cs := flat cE pts) rfl rfl (by decide))
 refine aH (σ := Nat × List Pnt × Nat) [9,10] [] (fun k => [(11,iv (k.1 : Int)),(1,.own 1 0 k.2.2 5)]) (fun k => [(1,some (flat cE k.2.1))]) (fun k => k.1 ≤ l.length ∧ k.2.1 = pts ++ gQ pts.length (l.take k.1) ∧ k.2.2 = k.2.1.length ∧ k.2.2 = pts.length + c9 (l.take k.1)) (fun k => l.length - k.1) (0,pts,pts.length) ⟨by omega,by simp [gQ],rfl,by simp [c9]⟩ ?_
 rintro ⟨k,xs,m1⟩ ⟨hk,hxs,hm1,hm2⟩
 dsimp only at hk hxs hm1 hm2 ⊢
 have hck := gT l k
 have hct := lS l[k]!
 have hnt := Du l k
 have n9 := JU l[k]!
 have n10 := Dl l[k]!
 have n1 := KA l[k]!
 repeat' (first|(apply aF;first|(apply aJ (t := _);rfl;rfl;rfl;(first|exact (rfl:_=some [_])|exact (rfl:_=some [_,_])|exact (rfl:_=some [_,_,_,_,_]));rfl;rfl)|(apply s7;rfl;rfl;(rfl);(apply pointsOf_ih <;> (first|omega|(simp only [gA] <;> omega)));rfl;rfl))|refine aE ?_|(refine aK ?_ ?_ <;> intro hc hq <;> try (exfalso;omega))|fail)
 ·(refine bC (k + 1, _, _) (Le.renA [(1, 8)]) ?_ ?_)
  ·dsimp only
   rw [zG hm1,Ax hm1,Ab (by rw [bX,hm1]),AG (by rw [bX,hm1]),gH l _ k (by omega),fM l k (by omega),jL,if_pos hq,n9 hq]
   refine ⟨by omega,?_,by simp [bX]; omega,by omega⟩
   have e1 : xs.length = pts.length + c9 (l.take k) := by omega
   rw [← List.append_assoc pts,← hxs,← e1]
   simp only [List.append_assoc,List.length_append,List.length_cons,List.length_nil,bX,hm1,Nat.zero_add]
   clear pointsOf_ih hxs hck hnt n9 n10 n1
   grind
  ·dsimp only;omega
 ·(refine bC (k + 1, _, _) (Le.renA [(1, 8)]) ?_ ?_)
  ·dsimp only
   rw [D9 hm1,DQ hm1,gH l _ k (by omega),fM l k (by omega),jL,if_neg (by omega),if_pos hq,n10 hq]
   refine ⟨by omega,?_,by simp [bX]; omega,by omega⟩
   have e1 : xs.length = pts.length + c9 (l.take k) := by omega
   rw [← List.append_assoc pts,← hxs,← e1]
   simp only [List.append_assoc,List.length_append,List.length_cons,List.length_nil,bX,hm1,Nat.zero_add]
   clear pointsOf_ih hxs hck hnt n9 n10 n1
   grind
  ·dsimp only;omega
 ·(refine bC (k + 1, _, _) (Le.renA [(1, 5)]) ?_ ?_)
  ·dsimp only
   rw [gH l _ k (by omega),fM l k (by omega),jL,if_neg ‹¬l[k]!.op = 9›,if_neg hq,n1 ‹¬l[k]!.op = 9› hq]
   refine ⟨by omega,?_,by simp [bX]; omega,by omega⟩
   have e1 : xs.length = pts.length + c9 (l.take k) := by omega
   rw [← List.append_assoc pts,← hxs,← e1,hm1]
  ·dsimp only;omega
 ·refine aC rfl ?_
  have e2 : l.take k = l := List.take_of_length_le (by omega)
  rw [e2] at hxs hm2
  refine aS () trivial ?_ ⟨sE ?_,trivial⟩
  ·simp only [aO]; rw [hm2]
  ·rw [hxs]
theorem DT (l:List AL.Stmt) (pts:List Pnt) (m:Nat) (hs:aT l ≤ 1000000) (hm:m = pts.length) (hb:m + c9 l ≤ 12000000):MC Tryz.prog 122 [sl aN l,.own 0 0 m 5] [(0,some (flat cE pts))] 1 (fun _:Unit => True) (fun _ => .own 1 0 (m + c9 l) 5) (fun _ => [(1,some (flat cE (pts ++ gQ pts.length l)))]):=by
 have h : ∀ (mm : Nat), mm ≤ 1000000 → ∀ l pts m, aT l ≤ mm → m = pts.length → m + c9 l ≤ 12000000 → MC Tryz.prog 122 [sl aN l, .own 0 0 m 5] [(0, some (flat cE pts))] 1 (fun _ : Unit => True) (fun _ => .own 1 0 (m + c9 l) 5) (fun _ => [(1, some (flat cE (pts ++ gQ pts.length l)))]) := by
  intro mm
  induction mm using Nat.strongRecOn with
  | ind mm ih =>
   intro h0 l pts m h1 h2 h3
   exact CB mm h0 (fun l' pts' m' g1 g2 g3 => ih _ g1 (by omega) l' pts' m' (Nat.le_refl _) g2 g3) l pts m h1 h2 h3
 exact h _ hs l pts m (Nat.le_refl _) hm hb
theorem Be {l:List AL.Stmt}{x0 x1:Operand}(ha0:ev (lk tsl) x0 = some (sl aN l)) (ha1:ev (lk tsl) x1 = some (.v (.slice none 0 0))) (hmc:MC Tryz.prog 122 [sl aN l,.v (.slice none 0 0)] [] 0 (fun _:Unit => True) (fun _ => .own 0 0 (c9 l) 5) (fun _ => [(0,some (flat cE (gQ 0 l)))])) (hM:Nat.ble (nidl + 1) a6 = true) (hN:Nat.blt d N = true){md':Md}[hmd:MdA md (fI [x0,x1] ++ []) (List.map Sum.inr (List.map Prod.fst ([(nidl,some (flat cE (gQ 0 l)))]:List (Nat × Option (List AV)))) ++ [.inl d]) md'] (kk:RW Tryz.prog N all Q md' rest ⟨(d,.own nidl 0 (c9 l) 5) :: tsl,gE hsl [(nidl,some (flat cE (gQ 0 l)))],nidl + 1,z0⟩):RW Tryz.prog N all Q md (⟨some d,.call ⟨.value (.func 122),#[x0,x1],tys⟩,ty,pos,af,none⟩ :: rest) ⟨tsl,hsl,nidl,z0⟩:=by
 exact aX (l := [x0,x1]) [] 1 [(nidl,some (flat cE (gQ 0 l)))] hmc (avs := [sl aN l,.v (.slice none 0 0)]) (by simp only [evL,ha0,ha1]) rfl hM hN (md' := md') (hmd := hmd) kk
theorem Cr (l:List AL.Stmt) (hs:aT l ≤ 1000000):MC Tryz.prog 122 [sl aN l,.v (.slice none 0 0)] [] 0 (fun _:Unit => True) (fun _ => .own 0 0 (c9 l) 5) (fun _ => [(0,some (flat cE (gQ 0 l)))]):=by
 have hlen := eE l
 have hn2 := m6 l
 refine aW Tryz.func122 Tryz.ntmps122 ?_
 repeat' (first|refine aE ?_|fail)
 refine AW.le ?_ (Le.nilOwn (d := 1) 5 rfl (by decide))
 refine aH (σ := Nat × List Pnt × Nat) [9,10] [] (fun k => [(11,iv (k.1 : Int)),(1,.own 0 0 k.2.2 5)]) (fun k => [(0,some (flat cE k.2.1))]) (fun k => k.1 ≤ l.length ∧ k.2.1 = gQ 0 (l.take k.1) ∧ k.2.2 = k.2.1.length ∧ k.2.2 = c9 (l.take k.1)) (fun k => l.length - k.1) (0,[],0) ⟨by omega,by simp [gQ],rfl,by simp [c9]⟩ ?_
 rintro ⟨k,xs,m1⟩ ⟨hk,hxs,hm1,hm2⟩
 dsimp only at hk hxs hm1 hm2 ⊢
 have hck := gT l k
 have hct := lS l[k]!
 have hnt := Du l k
 have n9 := JU l[k]!
 have n10 := Dl l[k]!
 have n1 := KA l[k]!
 repeat' (first|(apply aF;first|(apply aJ (t := _);rfl;rfl;rfl;(first|exact (rfl:_=some [_])|exact (rfl:_=some [_,_])|exact (rfl:_=some [_,_,_,_,_]));rfl;rfl)|(apply s7;rfl;rfl;(rfl);(apply DT <;> (first|omega|(simp only [gA] <;> omega)));rfl;rfl))|refine aE ?_|(refine aK ?_ ?_ <;> intro hc hq <;> try (exfalso;omega))|fail)
 ·(refine bC (k + 1, _, _) (Le.renA [(0, 7)]) ?_ ?_)
  ·dsimp only
   rw [zG hm1,Ax hm1,Ab (by rw [bX,hm1]),AG (by rw [bX,hm1]),gH l _ k (by omega),fM l k (by omega),jL,if_pos hq,n9 hq]
   refine ⟨by omega,?_,by simp [bX]; omega,by omega⟩
   have e1 : c9 (l.take k) = xs.length := by omega
   rw [Nat.zero_add,e1]
   rw [← hxs]
   simp only [List.append_assoc,List.length_append,List.length_cons,List.length_nil,bX,hm1,Nat.zero_add]
   clear hxs hck hnt n9 n10 n1
   grind
  ·dsimp only;omega
 ·(refine bC (k + 1, _, _) (Le.renA [(0, 7)]) ?_ ?_)
  ·dsimp only
   rw [D9 hm1,DQ hm1,gH l _ k (by omega),fM l k (by omega),jL,if_neg (by omega),if_pos hq,n10 hq]
   refine ⟨by omega,?_,by simp [bX]; omega,by omega⟩
   have e1 : c9 (l.take k) = xs.length := by omega
   rw [Nat.zero_add,e1]
   rw [← hxs]
   simp only [List.append_assoc,List.length_append,List.length_cons,List.length_nil,bX,hm1,Nat.zero_add]
   clear hxs hck hnt n9 n10 n1
   grind
  ·dsimp only;omega
 ·(refine bC (k + 1, _, _) (Le.renA [(0, 4)]) ?_ ?_)
  ·dsimp only
   rw [gH l _ k (by omega),fM l k (by omega),jL,if_neg ‹¬l[k]!.op = 9›,if_neg hq,n1 ‹¬l[k]!.op = 9› hq]
   refine ⟨by omega,?_,by simp [bX]; omega,by omega⟩
   have e1 : c9 (l.take k) = xs.length := by omega
   rw [Nat.zero_add,e1]
   rw [← hxs,hm1]
  ·dsimp only;omega
 ·refine aC rfl ?_
  have e2 : l.take k = l := List.take_of_length_le (by omega)
  rw [e2] at hxs hm2
  refine aS () trivial ?_ ⟨sE ?_,trivial⟩
  ·simp only [aO]; rw [hm2]
  ·rw [hxs]
theorem Ia (p:Prg) (hs:aT p.body ≤ 1000000):PC Tryz.prog 80 [bK p] (fun r => r = sl cE (aD p)):=by
 have hn := m6 p.body
 refine aB Tryz.func80 Tryz.ntmps80 ?_
 repeat' (first|(apply aF;first|(apply aJ (t := _);rfl;rfl;rfl;(exact (rfl:_=some [_,_,_,_,_]));rfl;rfl)|(apply Be;rfl;rfl;(apply Cr <;> (assumption));rfl;rfl))|refine aE ?_|fail)
 (refine aR (Le.frzD (d := 2) (i := 3) rfl rfl) ?_; refine aC rfl ?_)
 refine ⟨?_,?_⟩
 ·simp only [aO,sl,aD,List.length_append,List.length_cons,List.length_nil,bX,Nat.zero_add]
 ·(exact bF _ _)
theorem BE {l:List AL.Stmt}{pts:List Pnt}{m:Nat}{x0 x1:Operand}{i0:Nat}(ha0:ev (lk tsl) x0 = some (.own i0 0 m 5)) (ha1:ev (lk tsl) x1 = some (sl aN l)) (hH0:aV hsl i0 = some (flat cE pts)) (hmc:MC Tryz.prog 130 [.own 0 0 m 5,sl aN l] [(0,some (flat cE pts))] 1 (fun _:Unit => True) (fun _ => .own 1 0 (m + c9 l) 5) (fun _ => [(1,some (flat cE (pts ++ gQ pts.length l)))])) (hM:Nat.ble (nidl + 1) a6 = true) (hN:Nat.blt d N = true){md':Md}[hmd:MdA md (fI [x0,x1] ++ [.inr i0]) (List.map Sum.inr (List.map Prod.fst ([(nidl,some (flat cE (pts ++ gQ pts.length l))),(i0,none)]:List (Nat × Option (List AV)))) ++ [.inl d]) md'] (kk:RW Tryz.prog N all Q md' rest ⟨(d,.own nidl 0 (m + c9 l) 5) :: tsl,gE hsl [(nidl,some (flat cE (pts ++ gQ pts.length l))),(i0,none)],nidl + 1,z0⟩):RW Tryz.prog N all Q md (⟨some d,.call ⟨.value (.func 130),#[x0,x1],tys⟩,ty,pos,af,none⟩ :: rest) ⟨tsl,hsl,nidl,z0⟩:=by
 exact aX (l := [x0,x1]) [i0] 2 [(nidl,some (flat cE (pts ++ gQ pts.length l))),(i0,none)] hmc (avs := [.own i0 0 m 5,sl aN l]) (by simp only [evL,ha0,ha1]) rfl hM hN (md' := md') (hmd := hmd) kk
theorem Is (mm:Nat) (hmm:mm ≤ 1000000) (l2Add_ih:∀ l pts m,aT l < mm → m = pts.length → m + c9 l ≤ 12000000 → MC Tryz.prog 130 [.own 0 0 m 5,sl aN l] [(0,some (flat cE pts))] 1 (fun _:Unit => True) (fun _ => .own 1 0 (m + c9 l) 5) (fun _ => [(1,some (flat cE (pts ++ gQ pts.length l)))])) (l:List AL.Stmt) (pts:List Pnt) (m:Nat) (hs:aT l ≤ mm) (hm:m = pts.length) (hb:m + c9 l ≤ 12000000):MC Tryz.prog 130 [.own 0 0 m 5,sl aN l] [(0,some (flat cE pts))] 1 (fun _:Unit => True) (fun _ => .own 1 0 (m + c9 l) 5) (fun _ => [(1,some (flat cE (pts ++ gQ pts.length l)))]):=by
 have hlen := eE l
 subst hm
 refine aW Tryz.func130 Tryz.ntmps130 ?_
 repeat' (first|refine aE ?_|fail)
 refine AW.le ?_ (Le.mv (d := 0) (i := 0) (cs := flat cE pts) rfl rfl (by decide))
 refine aH (σ := Nat × List Pnt × Nat) [1] [] (fun k => [(5,iv (k.1 : Int)),(0,.own 1 0 k.2.2 5)]) (fun k => [(1,some (flat cE k.2.1))]) (fun k => k.1 ≤ l.length ∧ k.2.1 = pts ++ gQ pts.length (l.take k.1) ∧ k.2.2 = k.2.1.length ∧ k.2.2 = pts.length + c9 (l.take k.1)) (fun k => l.length - k.1) (0,pts,pts.length) ⟨by omega,by simp [gQ],rfl,by simp [c9]⟩ ?_
 rintro ⟨k,xs,m1⟩ ⟨hk,hxs,hm1,hm2⟩
 dsimp only at hk hxs hm1 hm2 ⊢
 have hck := gT l k
 have hct := lS l[k]!
 have hnt := Du l k
 have n9 := JU l[k]!
 have n10 := Dl l[k]!
 have n1 := KA l[k]!
 repeat' (first|(apply aF;first|(apply aJ (t := _);rfl;rfl;rfl;(first|exact (rfl:_=some [_])|exact (rfl:_=some [_,_])|exact (rfl:_=some [_,_,_,_,_]));rfl;rfl)|(apply BE;rfl;rfl;(rfl);(apply l2Add_ih <;> (first|omega|(simp only [gA] <;> omega)));rfl;rfl))|refine aE ?_|(refine aK ?_ ?_ <;> intro hc hq <;> try (exfalso;omega))|fail)
 ·(refine bC (k + 1, _, _) (Le.renA [(1, 8)]) ?_ ?_)
  ·dsimp only
   rw [Ab (by rw [bX,hm1]),AG (by rw [bX,hm1]),zG hm1,Ax hm1,gH l _ k (by omega),fM l k (by omega),jL,if_pos hq,n9 hq]
   refine ⟨by omega,?_,by simp [bX]; omega,by omega⟩
   have e1 : xs.length = pts.length + c9 (l.take k) := by omega
   rw [← List.append_assoc pts,← hxs,← e1]
   simp only [List.append_assoc,List.length_append,List.length_cons,List.length_nil,bX,hm1,Nat.zero_add]
   clear l2Add_ih hxs hck hnt n9 n10 n1
   grind
  ·dsimp only;omega
 ·(refine bC (k + 1, _, _) (Le.renA [(1, 8)]) ?_ ?_)
  ·dsimp only
   rw [D9 hm1,DQ hm1,gH l _ k (by omega),fM l k (by omega),jL,if_neg (by omega),if_pos hq,n10 hq]
   refine ⟨by omega,?_,by simp [bX]; omega,by omega⟩
   have e1 : xs.length = pts.length + c9 (l.take k) := by omega
   rw [← List.append_assoc pts,← hxs,← e1]
   simp only [List.append_assoc,List.length_append,List.length_cons,List.length_nil,bX,hm1,Nat.zero_add]
   clear l2Add_ih hxs hck hnt n9 n10 n1
   grind
  ·dsimp only;omega
 ·(refine bC (k + 1, _, _) (Le.renA [(1, 5)]) ?_ ?_)
  ·dsimp only
   rw [gH l _ k (by omega),fM l k (by omega),jL,if_neg ‹¬l[k]!.op = 9›,if_neg hq,n1 ‹¬l[k]!.op = 9› hq]
   refine ⟨by omega,?_,by simp [bX]; omega,by omega⟩
   have e1 : xs.length = pts.length + c9 (l.take k) := by omega
   rw [← List.append_assoc pts,← hxs,← e1,hm1]
  ·dsimp only;omega
 ·refine aC rfl ?_
  have e2 : l.take k = l := List.take_of_length_le (by omega)
  rw [e2] at hxs hm2
  refine aS () trivial ?_ ⟨sE ?_,trivial⟩
  ·simp only [aO]; rw [hm2]
  ·rw [hxs]
theorem Nb (l:List AL.Stmt) (pts:List Pnt) (m:Nat) (hs:aT l ≤ 1000000) (hm:m = pts.length) (hb:m + c9 l ≤ 12000000):MC Tryz.prog 130 [.own 0 0 m 5,sl aN l] [(0,some (flat cE pts))] 1 (fun _:Unit => True) (fun _ => .own 1 0 (m + c9 l) 5) (fun _ => [(1,some (flat cE (pts ++ gQ pts.length l)))]):=by
 have h : ∀ (mm : Nat), mm ≤ 1000000 → ∀ l pts m, aT l ≤ mm → m = pts.length → m + c9 l ≤ 12000000 → MC Tryz.prog 130 [.own 0 0 m 5, sl aN l] [(0, some (flat cE pts))] 1 (fun _ : Unit => True) (fun _ => .own 1 0 (m + c9 l) 5) (fun _ => [(1, some (flat cE (pts ++ gQ pts.length l)))]) := by
  intro mm
  induction mm using Nat.strongRecOn with
  | ind mm ih =>
   intro h0 l pts m h1 h2 h3
   exact Is mm h0 (fun l' pts' m' g1 g2 g3 => ih _ g1 (by omega) l' pts' m' (Nat.le_refl _) g2 g3) l pts m h1 h2 h3
 exact h _ hs l pts m (Nat.le_refl _) hm hb
theorem dE (p:Prg) (hs:aT p.body ≤ 1000000):PC Tryz.prog 132 [bK p] (fun r => r = sl cE (aD p)):=by
 have hn := m6 p.body
 have e0 : ([] : List AV) = flat cE [] := rfl
 refine aB Tryz.func132 Tryz.ntmps132 ?_
 repeat' (first|(apply aF;(apply BE;rfl;rfl;(exact Gq rfl);(apply Nb <;> (first|assumption|omega|(simp only [gA] <;> omega)));rfl;rfl))|refine aE ?_|fail)
 (refine aR (Le.frzD (d := 2) (i := 4) rfl rfl) ?_; refine aC rfl ?_)
 refine ⟨?_,(by (exact bF _ _))⟩
 simp only [aO,sl,aD,List.length_append,List.length_cons,List.length_nil,bX,Nat.zero_add,List.nil_append]
theorem AZ (ts:List Int) (bd:List AL.Stmt) (pts:List Pnt) (v:Int) (h:0 ≤ v ∧ v < ts.length):PC Tryz.prog 199 [aG ts bd pts,iv v] (fun r => r = bv (w9 ts[v.toNat]!)):=by
 refine aB Tryz.func199 Tryz.ntmps199 ?_
 repeat' (first|refine aE ?_|(refine bQ ?_ ?_ <;> intro hg hq <;> try (exfalso;omega))|refine cZ ?_|fail)
 all_goals (refine ⟨?_,rfl⟩; simp only [aO,AV.v.injEq,Value.bool.injEq,Value.int.injEq,true_and])
 all_goals grind [w9]
theorem Ri (ts:List Int) (bd:List AL.Stmt) (pts:List Pnt) (x:Pnt) (v:Int) (h:0 ≤ v ∧ v < ts.length):PC Tryz.prog 244 [aG ts bd pts,dP x,iv v] (fun r => r = iv (aQ ts x v)):=by
 refine aB Tryz.func244 Tryz.ntmps244 ?_
 repeat' (first|(apply aF;(apply aA (k := 199);rfl;(apply AZ <;> (assumption));exact Pur.pf;rfl))|refine aE ?_|(refine aK ?_ ?_ <;> intro hc hq <;> try (exfalso;omega))|(refine bQ ?_ ?_ <;> intro hg hq <;> try (exfalso;omega))|refine cZ ?_|fail)
 all_goals (refine ⟨?_,rfl⟩; simp only [aO,AV.v.injEq,Value.bool.injEq,Value.int.injEq,true_and])
 all_goals grind [w9,aQ]
theorem zU (x:Pnt):PC Tryz.prog 143 [dP x] (fun r => r = iv (aM x)):=by
 refine aB Tryz.func143 Tryz.ntmps143 ?_
 repeat' (first|refine aE ?_|(refine aK ?_ ?_ <;> intro hc hq <;> try (exfalso;omega))|refine cZ ?_|fail)
 all_goals (refine ⟨?_,rfl⟩; simp only [aO,AV.v.injEq,Value.bool.injEq,Value.int.injEq,true_and])
 all_goals grind [aM]
theorem nI (x:Pnt):PC Tryz.prog 233 [dP x] (fun r => r = bv (cC x)):=by
 refine aB Tryz.func233 Tryz.ntmps233 ?_
 repeat' (first|refine aE ?_|(refine bQ ?_ ?_ <;> intro hg hq <;> try (exfalso;omega))|refine cZ ?_|fail)
 all_goals (refine ⟨?_,rfl⟩; simp only [aO,AV.v.injEq,Value.bool.injEq,Value.int.injEq,true_and])
 all_goals grind [cC]
theorem qQ (x:Pnt) (h:aM x < 62):PC Tryz.prog 182 [dP x] (fun r => r = iv (iN x:Nat)):=by
 refine aB Tryz.func182 Tryz.ntmps182 ?_
 repeat' (first|(apply aF;first|(apply kM;rfl;rfl;infer_instance;omega;rfl;(case' kk => intro hsm))|(apply aA (k := 143);rfl;(apply zU);exact Pur.pf;rfl))|refine aE ?_|(refine aK ?_ ?_ <;> intro hc hq <;> try (exfalso;omega))|refine cZ ?_|fail)
 all_goals (refine ⟨?_,rfl⟩; simp only [aO,AV.v.injEq,Value.bool.injEq,Value.int.injEq,true_and])
 all_goals (unfold iN)
 ·rw [if_pos (by omega)]
 ·rw [if_neg (by omega)]; rfl
theorem Ro (ts:List Int) (bd:List AL.Stmt) (pts:List Pnt) (h:ts.length ≤ 6):PC Tryz.prog 232 [aG ts bd pts] (fun r => r = iv ((2 ^ ts.length - 1:Nat):Int)):=by
 have h1 : 2 ^ ts.length ≤ 2 ^ 6 := Nat.pow_le_pow_right (by decide) h
 have h2 : 0 < 2 ^ ts.length := Nat.pow_pos (by decide)
 have h3 : 2 ^ (ts.length : Int).toNat ≤ 2 ^ 6 := h1
 have h4 : 2 ^ (ts.length : Int).toNat = 2 ^ ts.length := rfl
 refine aB Tryz.func232 Tryz.ntmps232 ?_
 repeat' (first|(apply aF;(apply kM;rfl;rfl;infer_instance;omega;rfl;(case' kk => intro hsm)))|refine aE ?_|refine cZ ?_|fail)
 all_goals (refine ⟨?_,rfl⟩; simp only [aO,AV.v.injEq,Value.bool.injEq,Value.int.injEq,true_and])
 omega
def IN (xs : List Int) (v : Int) : Int := match xs.findIdx? (fun t => decide (t = v)) with | some i => i | none => -1
theorem MS (xs:List Int) (v:Int) (hl:xs.length ≤ 1000000):PC Tryz.prog 119 [sl cI xs,iv v] (fun r => r = iv (IN xs v)):=by
 refine aB Tryz.func119 Tryz.ntmps119 ?_
 repeat' (first|refine aE ?_|fail)
 refine aH (σ := Nat) [0,1,7] [] (fun k => [(8,iv (k : Int))]) (fun k => []) (fun k => k ≤ xs.length ∧ ∀ i,i < k → xs[i]! ≠ v) (fun k => xs.length - k) (0) ⟨by omega,by omega⟩ ?_
 intro k ⟨hk,hall⟩
 repeat' (first|refine aE ?_|(refine aK ?_ ?_ <;> intro hc hq <;> try (exfalso;omega))|refine cZ ?_|fail)
 ·(refine ⟨?_, rfl⟩; simp only [aO, AV.v.injEq, Value.bool.injEq, Value.int.injEq, true_and])
  have hlt : k < xs.length := by omega
  have : xs.findIdx? (fun t => decide (t = v)) = some k := by
   rw [List.findIdx?_eq_some_iff_getElem]
   refine ⟨hlt,?_,fun j hj => ?_⟩
   ·rw [← aZ xs k hlt]; grind
   ·have := hall j hj;rw [aZ xs j (by omega)] at this;simpa using this
  simp only [IN,this]
 ·(refine bC (k + 1) (Le.renA []) ?_ ?_)
  ·grind
  ·omega
 ·(refine ⟨?_, rfl⟩; simp only [aO, AV.v.injEq, Value.bool.injEq, Value.int.injEq, true_and])
  have : xs.findIdx? (fun t => decide (t = v)) = none := by
   rw [List.findIdx?_eq_none_iff]
   intro x hx
   obtain ⟨i,hi,rfl⟩ := List.getElem_of_mem hx
   have := hall i (by omega);rw [aZ xs i hi] at this;simpa using this
  simp only [IN,this]
theorem L6 (xs:List Int) (v:Int):decide (0 ≤ IN xs v) = decide (v ∈ xs):=by
 unfold IN
 split
 ·rename_i i h
  obtain ⟨h1,h2,_⟩ := List.findIdx?_eq_some_iff_getElem.1 h
  simp only [decide_eq_true_eq] at h2
  have : v ∈ xs := by rw [← h2]; exact List.getElem_mem h1
  simp [this]
 ·rename_i h
  rw [List.findIdx?_eq_none_iff] at h
  have : v ∉ xs := fun hm => by have := h v hm;simp at this
  simp [this]
theorem o7 (xs:List Int) (v:Int) (hl:xs.length ≤ 1000000):PC Tryz.prog 56 [sl cI xs,iv v] (fun r => r = bv (decide (v ∈ xs))):=by
 refine aB Tryz.func56 Tryz.ntmps56 ?_
 repeat' (first|(apply aF;(apply aA (k := 119);rfl;(apply MS <;> (assumption));exact Pur.pf;rfl))|refine aE ?_|refine cZ ?_|fail)
 (refine ⟨?_,rfl⟩; simp only [aO,AV.v.injEq,Value.bool.injEq,Value.int.injEq,true_and])
 exact L6 xs v
theorem F3 (ts:List Int) (bd:List AL.Stmt) (pts:List Pnt) (x:Pnt) (us:List Int) (h:ts.length ≤ 6) (hu:us.length ≤ 1000):PC Tryz.prog 207 [aG ts bd pts,dP x,sl cI us] (fun r => r = iv (wS ts x us:Nat)):=by
 refine aB Tryz.func207 Tryz.ntmps207 ?_
 repeat' (first|refine aE ?_|fail)
 refine aH (σ := Nat × Nat) [0,2,4,14] [0] (fun k => [(15,iv (k.1 : Int)),(7,iv (k.2 : Int))]) (fun k => []) (fun k => k.1 ≤ ts.length ∧ k.2 = fG (fun v => decide (aQ ts x v ∈ us)) k.1) (fun k => ts.length - k.1) (0,0) ⟨by omega,rfl⟩ ?_
 rintro ⟨k,A⟩ ⟨hk,hA⟩
 dsimp only at hk hA ⊢
 have hsm : Sm A := hA ▸ b9 (by omega)
 repeat' (first|(apply aF;first|(apply kM;rfl;rfl;infer_instance;omega;rfl;(case' kk => intro hsm))|(first|(apply aA (k := 56);rfl;(apply o7 <;> (omega));exact Pur.pf;rfl)|(apply aA (k := 244);rfl;(apply Ri <;> (omega));exact Pur.pf;rfl)))|refine aE ?_|(refine aK ?_ ?_ <;> intro hc hq <;> try (exfalso;omega))|refine cZ ?_|fail)
 ·(refine bC (k + 1, _) (Le.renA [(0, 0)]) ?_ ?_)
  ·dsimp only
   rw [hA]
   exact ⟨by omega,sD _ _ (by simpa using hq)⟩
  ·dsimp only;omega
 ·(refine bC (k + 1, _) (Le.renA [(0, 0)]) ?_ ?_)
  ·dsimp only
   rw [hA]
   exact ⟨by omega,mP _ _ (by simpa using hq)⟩
  ·dsimp only;omega
 ·(refine ⟨?_, rfl⟩; simp only [aO, AV.v.injEq, Value.bool.injEq, Value.int.injEq, true_and])
  rw [hA,show k = ts.length by omega]; rfl
theorem gJ (ts:List Int) (bd:List AL.Stmt) (pts:List Pnt) (x:Pnt) (h:ts.length ≤ 6):PC Tryz.prog 158 [aG ts bd pts,dP x] (fun r => r = iv (wS ts x [1,2,3]:Nat)):=by
 refine aB Tryz.func158 Tryz.ntmps158 ?_
 repeat' (first|(apply aF;first|(apply aJ (t := _);rfl;rfl;rfl;(exact (rfl:_=some [_,_,_]));rfl;rfl)|(apply aA (k := 207);rfl;(apply F3 (us := [1,2,3]) <;> (first|assumption|decide));exact Pur.pf;rfl))|refine aE ?_|refine cZ ?_|fail)
 (refine ⟨?_,rfl⟩; simp only [aO,AV.v.injEq,Value.bool.injEq,Value.int.injEq,true_and])
theorem tK (ts:List Int) (bd:List AL.Stmt) (pts:List Pnt) (x:Pnt) (h:ts.length ≤ 6):PC Tryz.prog 142 [aG ts bd pts,dP x] (fun r => r = iv (wS ts x [2]:Nat)):=by
 refine aB Tryz.func142 Tryz.ntmps142 ?_
 repeat' (first|(apply aF;first|(apply aJ (t := _);rfl;rfl;rfl;exact (rfl:_=some [_]);rfl;rfl)|(apply aA (k := 207);rfl;(apply F3 (us := [2]) <;> (first|assumption|decide));exact Pur.pf;rfl))|refine aE ?_|refine cZ ?_|fail)
 (refine ⟨?_,rfl⟩; simp only [aO,AV.v.injEq,Value.bool.injEq,Value.int.injEq,true_and])
theorem BX (ts:List Int) (bd:List AL.Stmt) (pts:List Pnt) (i:Int) (A:Nat) (h:WG ts pts) (hi:0 ≤ i ∧ i < pts.length) (hA:Sm A):PC Tryz.prog 103 [aG ts bd pts,iv i,iv (A:Int)] (fun r => r = iv (iM ts pts[i.toNat]! A:Nat)):=by
 have htl := h.tl
 have hst := (h.set i.toNat (by omega)).1
 have hs1 : Sm (wS ts pts[i.toNat]! [2]) := b9 (by omega)
 have hs2 : Sm (iN pts[i.toNat]!) := tV (by omega)
 refine aB Tryz.func103 Tryz.ntmps103 ?_
 repeat' (first|(apply aF;(first|(apply aA (k := 142);rfl;(apply tK <;> (assumption));exact Pur.pf;rfl)|(apply aA (k := 182);rfl;(apply qQ <;> (omega));exact Pur.pf;rfl)))|refine aE ?_|refine bS ?_|refine cZ ?_|fail)
 (refine ⟨?_,rfl⟩; simp only [aO,AV.v.injEq,Value.bool.injEq,Value.int.injEq,true_and])
 rfl
theorem D5 (ts:List Int) (bd:List AL.Stmt) (pts:List Pnt) (A:List Nat) (w:WG ts pts) (hA:sJ ts pts A):PC Tryz.prog 181 [aG ts bd pts,iv 0,bv false,.clos (.func 103) [aG ts bd pts] []] (fun r => r = .imm pts.length (flat cN A)):=by
 have hpl := w.pl
 have hp0 := w.p0
 have htl := w.tl
 have fl := Rj w
 refine aB Tryz.func181 Tryz.ntmps181 ?_
 repeat' (first|refine aE ?_|fail)
 refine aH (σ := List Nat × Bool) [0,2,3,9] [] (fun s => [(11,bv s.2)]) (fun s => [(0,some (flat cN s.1))]) (fun s => SG pts (R9 ts pts) s.1 ∧ True ∧ (s.2 = false → lM oT (fun i A => iM ts pts[i]! A) pts s.1)) (fun s => 2 * fL (s.1.map (fun a => 2 ^ ts.length - a)) + s.2.toNat) (((List.replicate pts.length 0).set 0 0),true) ⟨by rw [mQ (by rw [aZ _ _ (by simpa using hp0),List.getElem_replicate]) (by simpa using hp0)]; exact Df fun i hi => ⟨Nat.pow_pos (by decide),fun v h => by simp at h⟩,trivial,fun h => by cases h⟩ ?_
 rintro ⟨s,b⟩ ⟨hS,hE,hC⟩
 dsimp only at hS hE hC ⊢
 repeat' (first|refine aE ?_|(refine aK ?_ ?_ <;> intro hc hq <;> try (exfalso;omega))|fail)
 ·refine aH (σ := Nat × (List Nat × Bool)) [0, 2, 3, 9, 43, 44] [] (fun k => [(45, iv (k.1 : Int)), (11, bv k.2.2)]) (fun k => [(0, some (flat cN k.2.1))]) (fun k => k.1 ≤ pts.length ∧ k.2 = (List.range k.1).foldl (A6 oT (fun i A => iM ts pts[i]! A) pts) (s, false) ∧ SG pts (R9 ts pts) k.2.1 ∧ True) (fun k => pts.length - k.1) (0, (s, false)) ⟨by omega, rfl, hS, hE⟩ ?_
  rintro ⟨k,u,c⟩ ⟨hk,hf,hS2,hE2⟩
  dsimp only at hk hf hS2 hE2 ⊢
  have hsm : ∀ z,Sm u[z]! := w6 hS2 (fun i A h => h.1) htl
  have hul := hS2.1
  repeat' (first|(apply aF;(apply gG;rfl;rfl;infer_instance;rfl;(apply BX <;> (first|assumption|omega|infer_instance));exact Pur.pf;rfl))|refine aE ?_|(refine aK ?_ ?_ <;> intro hc hq <;> try (exfalso;omega))|fail)
  ·have hkn : k < pts.length := by omega
   have hv := tX w hkn (hS2.2 k hkn).1
   have hvs : Sm (iM ts pts[k]! u[k]!) := ⟨Nat.lt_of_lt_of_le hv (Nat.pow_le_pow_right (by decide) (by omega))⟩
   have hvs' : Sm (iM ts pts[(k : Int).toNat]! u[k]!) := hvs
   have hnl := w.nl k hkn
   refine aH (σ := Nat × (List Nat × Bool)) [0,2,3,9,14,43,44,45,58,59] [] (fun j => [(60,iv (j.1 : Int)),(11,bv j.2.2)]) (fun j => [(0,some (flat cN j.2.1))]) (fun j => j.1 ≤ pts[k]!.next.length ∧ j.2 = ((xA pts k).take j.1).foldl (lR oT (iM ts pts[k]! u[k]!)) (u,c) ∧ SG pts (R9 ts pts) j.2.1 ∧ True) (fun j => pts[k]!.next.length - j.1) (0,(u,c)) ⟨by omega,rfl,hS2,hE2⟩ ?_
   rintro ⟨j,u2,c2⟩ ⟨hj,hf2,hS3,hE3⟩
   dsimp only at hj hf2 hS3 hE3 ⊢
   have hsm2 : ∀ z,Sm u2[z]! := w6 hS3 (fun i A h => h.1) htl
   have hul2 := hS3.1
   have hz : j < pts[k]!.next.length → 0 ≤ pts[k]!.next[j]! ∧ pts[k]!.next[j]! < pts.length := fun h => w.nx k hkn _ (aU _ _ h)
   repeat' (first|refine aE ?_|(refine aK ?_ ?_ <;> intro hc hq <;> try (exfalso;omega))|fail)
   ·have hzz := hz (by omega)
    have hed : cF pts k (pts[k]!.next[j]!).toNat := ⟨hkn,by rw [Int.toNat_of_nonneg hzz.1]; exact aU _ _ (by omega)⟩
    have hne : oT u2[(pts[k]!.next[j]!).toNat]! (iM ts pts[k]! u[k]!) ≠ u2[(pts[k]!.next[j]!).toNat]! := fun h => hq (congrArg Int.ofNat h)
    (refine bC (j + 1,(_,true)) (Le.renA [(0,0)]) ?_ ?_)
    ·dsimp only
     refine ⟨by omega,?_,Ba fl w (hS2.2 k hkn) hed hS3,trivial⟩
     rw [jN (by omega),← hf2,A5 hne]; rfl
    ·dsimp only;omega
   ·have hzz := hz (by omega)
    have hne : oT u2[(pts[k]!.next[j]!).toNat]! (iM ts pts[k]! u[k]!) = u2[(pts[k]!.next[j]!).toNat]! := Int.ofNat.inj hq
    (refine bC (j + 1,(u2,c2)) (Le.renA [(0,0)]) ?_ ?_)
    ·dsimp only
     refine ⟨by omega,?_,hS3,hE3⟩
     rw [jN (by omega),← hf2,z6 hne]
    ·dsimp only;omega
   ·(refine bC (k + 1, (u2, c2)) (Le.renA [(0, 0)]) ?_ ?_)
    ·dsimp only
     refine ⟨by omega,?_,hS3,hE3⟩
     rw [dZ,← hf,hf2,List.take_of_length_le (by rw [lT]; omega)]; rfl
    ·dsimp only;omega
  ·have law := vF w fl s false hS
   have hfull : (u, c) = AR oT (fun i A => iM ts pts[i]! A) pts (s, false) := by
    rw [hf,show k = pts.length by omega]; rfl
   rw [show AR (fun a s => oT a s) (fun i A => iM ts pts[i]! A) pts (s,false) = (u,c) from hfull.symm] at law
   (refine bC (u,c) (Le.renA [(0,0)]) ?_ ?_)
   ·dsimp only
    refine ⟨hS2,hE2,fun h => ?_⟩
    rcases law.2 with ⟨e1,e2⟩ | ⟨e1,_⟩
    ·cases e1;exact e2
    ·dsimp only at e1;rw [h] at e1;cases e1
   ·dsimp only
    have hb : b = true := by assumption
    subst hb
    rcases law.2 with ⟨e1,e2⟩ | ⟨e1,e2⟩
    ·cases e1;simp
    ·dsimp only at e1 e2;subst e1;omega
 ·have hb : b = false := by assumption
  refine aR (Le.frzD (d := 8) (i := 0) rfl rfl) ?_
  refine aC rfl ⟨?_,(by (exact bF _ _))⟩
  simp only [aO]
  rw [Hc hA (KY w hS (hC hb))]
theorem D4 (ts:List Int) (bd:List AL.Stmt) (pts:List Pnt) (A:List Nat) (w:WG ts pts) (hA:sG ts pts A):PC Tryz.prog 181 [aG ts bd pts,iv 0,bv true,.clos (.func 103) [aG ts bd pts] []] (fun r => r = .imm pts.length (flat cN A)):=by
 have hpl := w.pl
 have hp0 := w.p0
 have htl := w.tl
 have fl := Sa w
 refine aB Tryz.func181 Tryz.ntmps181 ?_
 repeat' (first|refine aE ?_|fail)
 refine aH (σ := Nat × List Nat) [0,1,2,3,9,26] [] (fun k => [(27,iv (k.1 : Int))]) (fun k => [(0,some (flat cN k.2))]) (fun k => k.1 ≤ pts.length ∧ k.2 = List.replicate k.1 (2 ^ ts.length - 1) ++ List.replicate (pts.length - k.1) 0) (fun k => pts.length - k.1) (0,List.replicate pts.length 0) ⟨by omega,by simp⟩ ?_
 rintro ⟨k0,u0⟩ ⟨hk0,hu0⟩
 dsimp only at hk0 hu0 ⊢
 have hul0 : u0.length = pts.length := by rw [hu0]; simp;omega
 repeat' (first|(apply aF;(apply aA (k := 232);rfl;(apply Ro <;> (assumption));exact Pur.pf;rfl))|refine aE ?_|(refine aK ?_ ?_ <;> intro hc hq <;> try (exfalso;omega))|fail)
 ·(refine bC (k0 + 1, _) (Le.renA [(0, 0)]) ?_ ?_)
  ·dsimp only
   exact ⟨by omega,by rw [hu0]; exact Nw (by omega)⟩
  ·dsimp only;omega
 have hk1 : k0 = pts.length := by omega
 subst hk1
 rw [Nat.sub_self,List.replicate_zero,List.append_nil] at hu0
 refine aH (σ := List Nat × Bool) [0,2,3,9] [] (fun s => [(11,bv s.2)]) (fun s => [(0,some (flat cN s.1))]) (fun s => SG pts (Ra ts pts) s.1 ∧ s.1[0]! = 0 ∧ (s.2 = false → lM QS (fun i A => iM ts pts[i]! A) pts s.1)) (fun s => 2 * fL (s.1.map (fun a => a)) + s.2.toNat) ((u0.set 0 0),true) ⟨(Ks w hu0).1,(Ks w hu0).2,fun h => by cases h⟩ ?_
 rintro ⟨s,b⟩ ⟨hS,hE,hC⟩
 dsimp only at hS hE hC ⊢
 repeat' (first|refine aE ?_|(refine aK ?_ ?_ <;> intro hc hq <;> try (exfalso;omega))|fail)
 ·refine aH (σ := Nat × (List Nat × Bool)) [0, 2, 3, 9, 43, 44] [] (fun k => [(45, iv (k.1 : Int)), (11, bv k.2.2)]) (fun k => [(0, some (flat cN k.2.1))]) (fun k => k.1 ≤ pts.length ∧ k.2 = (List.range k.1).foldl (A6 QS (fun i A => iM ts pts[i]! A) pts) (s, false) ∧ SG pts (Ra ts pts) k.2.1 ∧ k.2.1[0]! = 0) (fun k => pts.length - k.1) (0, (s, false)) ⟨by omega, rfl, hS, hE⟩ ?_
  rintro ⟨k,u,c⟩ ⟨hk,hf,hS2,hE2⟩
  dsimp only at hk hf hS2 hE2 ⊢
  have hsm : ∀ z,Sm u[z]! := w6 hS2 (fun i A h => h.1) htl
  have hul := hS2.1
  repeat' (first|(apply aF;(apply gG;rfl;rfl;infer_instance;rfl;(apply BX <;> (first|assumption|omega|infer_instance));exact Pur.pf;rfl))|refine aE ?_|(refine aK ?_ ?_ <;> intro hc hq <;> try (exfalso;omega))|fail)
  ·have hkn : k < pts.length := by omega
   have hv := tX w hkn (hS2.2 k hkn).1
   have hvs : Sm (iM ts pts[k]! u[k]!) := ⟨Nat.lt_of_lt_of_le hv (Nat.pow_le_pow_right (by decide) (by omega))⟩
   have hvs' : Sm (iM ts pts[(k : Int).toNat]! u[k]!) := hvs
   have hnl := w.nl k hkn
   refine aH (σ := Nat × (List Nat × Bool)) [0,2,3,9,14,43,44,45,58,59] [] (fun j => [(60,iv (j.1 : Int)),(11,bv j.2.2)]) (fun j => [(0,some (flat cN j.2.1))]) (fun j => j.1 ≤ pts[k]!.next.length ∧ j.2 = ((xA pts k).take j.1).foldl (lR QS (iM ts pts[k]! u[k]!)) (u,c) ∧ SG pts (Ra ts pts) j.2.1 ∧ j.2.1[0]! = 0) (fun j => pts[k]!.next.length - j.1) (0,(u,c)) ⟨by omega,rfl,hS2,hE2⟩ ?_
   rintro ⟨j,u2,c2⟩ ⟨hj,hf2,hS3,hE3⟩
   dsimp only at hj hf2 hS3 hE3 ⊢
   have hsm2 : ∀ z,Sm u2[z]! := w6 hS3 (fun i A h => h.1) htl
   have hul2 := hS3.1
   have hz : j < pts[k]!.next.length → 0 ≤ pts[k]!.next[j]! ∧ pts[k]!.next[j]! < pts.length := fun h => w.nx k hkn _ (aU _ _ h)
   repeat' (first|refine aE ?_|(refine aK ?_ ?_ <;> intro hc hq <;> try (exfalso;omega))|fail)
   ·have hzz := hz (by omega)
    have hed : cF pts k (pts[k]!.next[j]!).toNat := ⟨hkn,by rw [Int.toNat_of_nonneg hzz.1]; exact aU _ _ (by omega)⟩
    have hne : QS u2[(pts[k]!.next[j]!).toNat]! (iM ts pts[k]! u[k]!) ≠ u2[(pts[k]!.next[j]!).toNat]! := fun h => hq (congrArg Int.ofNat h)
    (refine bC (j + 1,(_,true)) (Le.renA [(0,0)]) ?_ ?_)
    ·dsimp only
     refine ⟨by omega,?_,Ba fl w (hS2.2 k hkn) hed hS3,(by rw [dD _ _ _ _ (by rw [hS3.1]; exact cT w hed)]; split <;> first|exact hE3|(rename_i q;rw [← q,hE3]; exact Nat.zero_and _))⟩
     rw [jN (by omega),← hf2,A5 hne]; rfl
    ·dsimp only;omega
   ·have hzz := hz (by omega)
    have hne : QS u2[(pts[k]!.next[j]!).toNat]! (iM ts pts[k]! u[k]!) = u2[(pts[k]!.next[j]!).toNat]! := Int.ofNat.inj hq
    (refine bC (j + 1,(u2,c2)) (Le.renA [(0,0)]) ?_ ?_)
    ·dsimp only
     refine ⟨by omega,?_,hS3,hE3⟩
     rw [jN (by omega),← hf2,z6 hne]
    ·dsimp only;omega
   ·(refine bC (k + 1, (u2, c2)) (Le.renA [(0, 0)]) ?_ ?_)
    ·dsimp only
     refine ⟨by omega,?_,hS3,hE3⟩
     rw [dZ,← hf,hf2,List.take_of_length_le (by rw [lT]; omega)]; rfl
    ·dsimp only;omega
  ·have law := vF w fl s false hS
   have hfull : (u, c) = AR QS (fun i A => iM ts pts[i]! A) pts (s, false) := by
    rw [hf,show k = pts.length by omega]; rfl
   rw [show AR (fun a s => QS a s) (fun i A => iM ts pts[i]! A) pts (s,false) = (u,c) from hfull.symm] at law
   (refine bC (u,c) (Le.renA [(0,0)]) ?_ ?_)
   ·dsimp only
    refine ⟨hS2,hE2,fun h => ?_⟩
    rcases law.2 with ⟨e1,e2⟩ | ⟨e1,_⟩
    ·cases e1;exact e2
    ·dsimp only at e1;rw [h] at e1;cases e1
   ·dsimp only
    have hb : b = true := by assumption
    subst hb
    rcases law.2 with ⟨e1,e2⟩ | ⟨e1,e2⟩
    ·cases e1;simp
    ·dsimp only at e1 e2;subst e1;omega
 ·have hb : b = false := by assumption
  refine aR (Le.frzD (d := 8) (i := 0) rfl rfl) ?_
  refine aC rfl ⟨?_,(by (exact bF _ _))⟩
  simp only [aO]
  rw [GV hA (Lu w hS hE (hC hb))]
theorem Ju (ts:List Int) (bd:List AL.Stmt) (pts:List Pnt) (A:List Nat) (w:WG ts pts) (hA:sG ts pts A):PC Tryz.prog 121 [aG ts bd pts,iv 0] (fun r => r = .imm pts.length (flat cN A)):=by
 refine aB Tryz.func121 Tryz.ntmps121 ?_
 repeat' (first|(apply aF;(apply aA (k := 181);rfl;exact D4 ts bd pts A w hA;exact Pur.pf;rfl))|refine aE ?_|refine cZ ?_|fail)
 exact ⟨rfl,(by (exact bF _ _))⟩
theorem MD (ts:List Int) (bd:List AL.Stmt) (pts:List Pnt) (A:List Nat) (w:WG ts pts) (hA:sJ ts pts A):PC Tryz.prog 102 [aG ts bd pts] (fun r => r = .imm pts.length (flat cN A)):=by
 refine aB Tryz.func102 Tryz.ntmps102 ?_
 repeat' (first|(apply aF;(apply aA (k := 181);rfl;exact D5 ts bd pts A w hA;exact Pur.pf;rfl))|refine aE ?_|refine cZ ?_|fail)
 exact ⟨rfl,(by (exact bF _ _))⟩
theorem F9 (ts:List Int) (bd:List AL.Stmt) (pts:List Pnt) (n:Nat) (B:List Nat) (i:Int) (w:WG ts pts) (hn:n = B.length) (hB:B.length = pts.length) (hs:∀ z:Nat,Sm B[z]!) (hi:0 ≤ i ∧ i < pts.length):PC Tryz.prog 189 [aG ts bd pts,.imm n (flat cN B),iv i] (fun r => r = iv (Nr pts B i.toNat:Nat)):=by
 subst hn
 have hin : i.toNat < pts.length := by omega
 have hnl := w.nl _ hin
 have hpl := w.pl
 refine aB Tryz.func189 Tryz.ntmps189 ?_
 repeat' (first|refine aE ?_|fail)
 refine aH (σ := Nat × Nat) [1,17,18] [] (fun k => [(19,iv (k.1 : Int)),(7,iv (k.2 : Int))]) (fun k => []) (fun k => k.1 ≤ pts[i.toNat]!.next.length ∧ k.2 = ((xA pts i.toNat).take k.1).foldl (fun a k => oT a B[k]!) 0 ∧ Sm k.2) (fun k => pts[i.toNat]!.next.length - k.1) (0,0) ⟨by omega,rfl,inferInstance⟩ ?_
 rintro ⟨k,a⟩ ⟨hk,ha,hsa⟩
 dsimp only at hk ha hsa ⊢
 have hz : k < pts[i.toNat]!.next.length → 0 ≤ pts[i.toNat]!.next[k]! ∧ pts[i.toNat]!.next[k]! < pts.length := fun h => w.nx _ hin _ (aU _ _ h)
 repeat' (first|refine aE ?_|(refine aK ?_ ?_ <;> intro hc hq <;> try (exfalso;omega))|refine cZ ?_|fail)
 ·(refine bC (k + 1, _) (Le.renA []) ?_ ?_)
  ·dsimp only
   refine ⟨by omega,?_,inferInstance⟩
   rw [dU _ _ _ _ (by rw [lT]; omega),A4 (by omega),← ha]
  ·dsimp only;omega
 ·(refine ⟨?_, rfl⟩; simp only [aO, AV.v.injEq, Value.bool.injEq, Value.int.injEq, true_and])
  rw [ha,List.take_of_length_le (by rw [lT]; omega)]; rfl
theorem IB (ts:List Int) (bd:List AL.Stmt) (pts:List Pnt) (A:List Nat) (w:WG ts pts) (hA:w7 ts pts A):PC Tryz.prog 188 [aG ts bd pts] (fun r => r = .imm pts.length (flat cN A)):=by
 have hpl := w.pl
 have hp0 := w.p0
 have htl := w.tl
 refine aB Tryz.func188 Tryz.ntmps188 ?_
 repeat' (first|refine aE ?_|fail)
 refine aH (σ := List Nat × Bool) [0,3] [] (fun s => [(4,bv s.2)]) (fun s => [(0,some (flat cN s.1))]) (fun s => SN ts pts s.1 ∧ (s.2 = false → ∀ i,i < pts.length → r7 ts pts s.1 i = s.1[i]!)) (fun s => 2 * fL (s.1.map (fun a => 2 ^ ts.length - a)) + s.2.toNat) (List.replicate pts.length 0,true) ⟨Pf,fun h => by cases h⟩ ?_
 rintro ⟨s,b⟩ ⟨hS,hC⟩
 dsimp only at hS hC ⊢
 repeat' (first|refine aE ?_|(refine aK ?_ ?_ <;> intro hc hq <;> try (exfalso;omega))|fail)
 ·refine aH (σ := Nat × Int × (List Nat × Bool)) [0, 3] [] (fun k => [(5, iv k.2.1), (4, bv k.2.2.2)]) (fun k => [(0, some (flat cN k.2.2.1))]) (fun k => k.1 ≤ pts.length ∧ k.2.1 = (pts.length : Int) - 1 - k.1 ∧ k.2.2 = ((List.range pts.length).reverse.take k.1).foldl (mC ts pts) (s, false) ∧ SN ts pts k.2.2.1) (fun k => pts.length - k.1) (0, (pts.length : Int) - 1, (s, false)) ⟨by omega, by simp, rfl, hS⟩ ?_
  rintro ⟨k,z,u,c⟩ ⟨hk,hz,hf,hS2⟩
  dsimp only at hk hz hf hS2 ⊢
  have hsm : ∀ z : Nat,Sm u[z]! := w6 hS2.1 (fun i A h => h.1) htl
  have hul := hS2.1.1
  have hst := fun h : z.toNat < pts.length => (w.set z.toNat h).1
  have hst2 : aM pts[z.toNat]! < 62 := by
   by_cases h : z.toNat < pts.length
   ·have := hst h;omega
   ·rw [getElem!_neg pts z.toNat h]; decide
  have hs1 : Sm (wS ts pts[z.toNat]! [1,2,3]) := b9 (by omega)
  have hs2 : Sm (iN pts[z.toNat]!) := tV (by omega)
  have hs3 : Sm (Nr pts u z.toNat) := by
   unfold Nr
   have : ∀ (L : List Nat) (a : Nat), Sm a → Sm (L.foldl (fun a k => a ||| u[k]!) a) := by
    intro L;induction L with
    | nil => exact fun a h => h
    | cons x L ih => exact fun a h => ih _ (inferInstance : Sm (a ||| u[x]!))
   exact this _ _ inferInstance
  have hlaw := fun h : z.toNat < pts.length => xS w u c z.toNat h hS2
  repeat' (first|(apply aF;(first|(apply aA (k := 158);rfl;(apply gJ <;> (assumption));exact Pur.pf;rfl)|(apply aA (k := 182);rfl;(apply qQ <;> (assumption));exact Pur.pf;rfl)|(apply qB (k := 189);(case ha => rfl);(case hl => (repeat' (first|exact oD|apply lN|exact At|exact nX rfl inferInstance|exact Dj inferInstance)));(case h => (apply F9 <;> (first|assumption|omega)));(case hfr|hN => rfl);(case hmd => infer_instance))))|refine aE ?_|(refine aK ?_ ?_ <;> intro hc hq <;> try (exfalso;omega))|refine bS ?_|fail)
  ·have hzn : z.toNat < pts.length := by omega
   have hne : r7 ts pts u z.toNat ≠ u[z.toNat]! := fun h => hq (congrArg Int.ofNat h)
   have hl := hlaw hzn
   rw [F2 hne] at hl
   have hrg : (List.range pts.length).reverse[k]! = z.toNat := by rw [Bo (by omega)]; omega
   (refine bC (k + 1,_,(_,true)) (Le.renA [(0,0)]) ?_ ?_)
   ·dsimp only
    refine ⟨by omega,by omega,?_,hl.1⟩
    rw [dU _ _ _ _ (by simp;omega),← hf,hrg,F2 hne]; rfl
   ·dsimp only;omega
  ·have hzn : z.toNat < pts.length := by omega
   have hne : r7 ts pts u z.toNat = u[z.toNat]! := Int.ofNat.inj hq
   have hrg : (List.range pts.length).reverse[k]! = z.toNat := by rw [Bo (by omega)]; omega
   (refine bC (k + 1,_,(u,c)) (Le.renA [(0,0)]) ?_ ?_)
   ·dsimp only
    refine ⟨by omega,by omega,?_,hS2⟩
    rw [dU _ _ _ _ (by simp;omega),← hf,hrg,M8 hne]
   ·dsimp only;omega
  ·have law := HH w s false hS
   have hfull : (u, c) = BN ts pts (s, false) := by
    rw [hf,List.take_of_length_le (by simp;omega)]; rfl
   rw [← hfull] at law
   (refine bC (u,c) (Le.renA [(0,0)]) ?_ ?_)
   ·dsimp only
    refine ⟨hS2,fun h => ?_⟩
    rcases law.2 with ⟨e1,e2⟩ | ⟨e1,_⟩
    ·cases e1;exact e2
    ·dsimp only at e1;rw [h] at e1;cases e1
   ·dsimp only
    have hb : b = true := by assumption
    subst hb
    rcases law.2 with ⟨e1,e2⟩ | ⟨e1,e2⟩
    ·cases e1;simp
    ·dsimp only at e1 e2;subst e1;omega
 ·have hb : b = false := by assumption
  refine aR (Le.frzD (d := 2) (i := 0) rfl rfl) ?_
  refine aC rfl ⟨?_,(by (exact bF _ _))⟩
  simp only [aO]
  rw [HO hA (Ko w hS (hC hb))]
theorem CE (ts:List Int) (bd:List AL.Stmt) (pts:List Pnt) (B A:List Nat) (w:WG ts pts) (hB:w7 ts pts B) (hA:sS ts pts A):PC Tryz.prog 108 [aG ts bd pts] (fun r => r = .imm pts.length (flat cN A)):=by
 have hpl := w.pl
 have htl := w.tl
 have hBl := hB.1
 have hsm : ∀ z : Nat, Sm B[z]! := by
  intro z
  by_cases hz : z < pts.length
  ·refine ⟨Nat.lt_of_lt_of_le (Nat.lt_pow_two_of_testBit _ (n := 6) fun v hv => ?_) (by decide)⟩
   cases hq : B[z]!.testBit v with
   | false => rfl
   | true => have := wF w ((hB.2 z hz v).1 hq);dsimp only at this;omega
  ·rw [getElem!_neg B z (by rw [hBl]; exact hz)]; exact ⟨by decide⟩
 refine aB Tryz.func108 Tryz.ntmps108 ?_
 repeat' (first|(apply aF;(apply aA (k := 188);rfl;(apply IB <;> (assumption));exact Pur.pf;rfl))|refine aE ?_|fail)
 refine AW.le ?_ (Le.nilOwn (d := 4) 1 rfl (by decide))
 refine aH (σ := Nat × List Nat) [0,3,12] [] (fun k => [(13,iv (k.1 : Int)),(4,.own 0 0 k.1 1)]) (fun k => [(0,some (flat cN k.2))]) (fun k => k.1 ≤ pts.length ∧ k.2 = (List.range k.1).map (Nr pts B)) (fun k => pts.length - k.1) (0,[]) ⟨by omega,rfl⟩ ?_
 rintro ⟨k,u⟩ ⟨hk,hu⟩
 dsimp only at hk hu ⊢
 have hul : u.length = k := by rw [hu]; simp
 repeat' (first|(apply aF;first|(apply aJ (t := _);rfl;rfl;rfl;exact (rfl:_=some [_]);rfl;rfl)|(apply aA (k := 189);rfl;(apply F9 <;> (first|assumption|omega));exact Pur.pf;rfl))|refine aE ?_|(refine aK ?_ ?_ <;> intro hc hq <;> try (exfalso;omega))|fail)
 ·(refine bC (k + 1, _) (Le.renA [(0, 2)]) ?_ ?_)
  ·dsimp only
   refine ⟨by omega,?_⟩
   rw [hu,List.range_succ,List.map_append]; rfl
  ·dsimp only;omega
 ·refine aR (Le.frzD (d := 2) (i := 0) rfl rfl) ?_
  refine aC rfl ⟨?_,(by (exact bF _ _))⟩
  simp only [aO]
  have hkn : k = pts.length := by omega
  subst hkn
  rw [yB hA (CX w hB),hu]
theorem gM (A:Nat) (hA:Sm A):PC Tryz.prog 120 [iv (A:Int)] (fun r => r = sl cI (a8 A)):=by
 refine aB Tryz.func120 Tryz.ntmps120 ?_
 repeat' (first|refine aE ?_|fail)
 refine AW.le ?_ (Le.nilOwn (d := 3) 1 rfl (by decide))
 refine aH (σ := Nat × List Int × Nat) [0] [] (fun k => [(4,iv (k.1 : Int)),(3,.own 0 0 k.2.2 1)]) (fun k => [(0,some (flat cI k.2.1))]) (fun k => k.1 ≤ 62 ∧ k.2.1 = ((List.range k.1).filter (A.testBit ·)).map (fun v : Nat => (v : Int)) ∧ k.2.2 = k.2.1.length ∧ k.2.2 ≤ k.1) (fun k => 62 - k.1) (0,[],0) ⟨by omega,rfl,rfl,Nat.le_refl _⟩ ?_
 rintro ⟨k,u,m⟩ ⟨hk,hu,hm,hmk⟩
 dsimp only at hk hu hm hmk ⊢
 repeat' (first|(apply aF;(apply aJ (t := _);rfl;rfl;rfl;exact (rfl:_=some [_]);rfl;rfl))|refine aE ?_|(refine aK ?_ ?_ <;> intro hc hq <;> try (exfalso;omega))|fail)
 ·have hlt := EI hA (show 0 < ((A >>> k : Nat) : Int) by assumption)
  (refine bC (k + 1,_,_) (Le.renA [(0,2)]) ?_ ?_)
  ·dsimp only
   exact ⟨by omega,xT hq hu,by simp;omega,by omega⟩
  ·dsimp only;omega
 ·have hlt := EI hA (show 0 < ((A >>> k : Nat) : Int) by assumption)
  (refine bC (k + 1,u,m) (Le.renA [(0,0)]) ?_ ?_)
  ·dsimp only
   exact ⟨by omega,yE hq hu,hm,by omega⟩
  ·dsimp only;omega
 ·(refine aR (Le.frzD (d := 2) (i := 0) rfl rfl) ?_; refine aC rfl ?_)
  refine ⟨?_,(by (exact bF _ _))⟩
  simp only [aO,sl]
  rw [rR (k := k) (fun v hv => I3 hq v hv) (by omega) hA,← hu,← hm]
theorem u7 (A:Nat) (hA:Sm A):PC Tryz.prog 76 [.v (.int .u64 (A:Int))] (fun r => r = sl cI (a8 A)):=by
 refine aB Tryz.func76 Tryz.ntmps76 ?_
 repeat' (first|refine aE ?_|fail)
 refine AW.le ?_ (Le.nilOwn (d := 3) 1 rfl (by decide))
 refine aH (σ := Nat × List Int × Nat) [0] [] (fun k => [(5,iv (k.1 : Int)),(3,.own 0 0 k.2.2 1)]) (fun k => [(0,some (flat cI k.2.1))]) (fun k => k.1 ≤ 64 ∧ k.2.1 = ((List.range k.1).filter (A.testBit ·)).map (fun v : Nat => (v : Int)) ∧ k.2.2 = k.2.1.length ∧ k.2.2 ≤ k.1) (fun k => 64 - k.1) (0,[],0) ⟨by omega,rfl,rfl,Nat.le_refl _⟩ ?_
 rintro ⟨k,u,m⟩ ⟨hk,hu,hm,hmk⟩
 dsimp only at hk hu hm hmk ⊢
 repeat' (first|(apply aF;(apply aJ (t := _);rfl;rfl;rfl;exact (rfl:_=some [_]);rfl;rfl))|refine aE ?_|(refine aK ?_ ?_ <;> intro hc hq <;> try (exfalso;omega))|fail)
 ·(refine bC (k + 1, _, _) (Le.renA [(0, 2)]) ?_ ?_)
  ·dsimp only
   exact ⟨by omega,xT hq hu,by simp;omega,by omega⟩
  ·dsimp only;omega
 ·(refine bC (k + 1, u, m) (Le.renA [(0, 0)]) ?_ ?_)
  ·dsimp only
   exact ⟨by omega,yE hq hu,hm,by omega⟩
  ·dsimp only;omega
 ·(refine aR (Le.frzD (d := 2) (i := 0) rfl rfl) ?_; refine aC rfl ?_)
  refine ⟨?_,(by (exact bF _ _))⟩
  simp only [aO,sl]
  rw [rR (k := k) (fun v hv => Nat.testBit_lt_two_pow (Nat.lt_of_lt_of_le hA.pf (Nat.pow_le_pow_right (by decide) (by omega)))) (by omega) hA,← hu,← hm]
theorem CP (ts:List Int) (bd:List AL.Stmt) (pts:List Pnt) (V:Nat) (w:WG ts pts) (hV:Sm V):PC Tryz.prog 235 [aG ts bd pts,iv (V:Int)] (fun r => r = .v (.int .u64 (tE pts V:Nat))):=by
 have hpl := w.pl
 have htl := w.tl
 refine aB Tryz.func235 Tryz.ntmps235 ?_
 repeat' (first|refine aE ?_|fail)
 refine aH (σ := Nat × Nat) [1,11,12] [] (fun k => [(13,iv (k.1 : Int)),(5,.v (.int .u64 (k.2 : Int)))]) (fun k => []) (fun k => k.1 ≤ pts.length ∧ k.2 = fG (fun l => cC pts[l]! && V.testBit (pts[l]!.y.toNat)) k.1) (fun k => pts.length - k.1) (0,0) ⟨by omega,rfl⟩ ?_
 rintro ⟨k,A⟩ ⟨hk,hA⟩
 dsimp only at hk hA ⊢
 have hsm : Sm A := hA ▸ b9 (by omega)
 cases hln : cC pts[k]!
 ·repeat' (first | (apply aF; (apply aA (k := 233);rfl;(apply nI);exact Pur.pf;rfl)) | refine aE ?_ | (refine aK ?_ ?_ <;> intro hc hq <;> try (exfalso; omega)) | refine cZ ?_|fail)
  ·(refine bC (k + 1, A) (Le.renA []) ?_ ?_)
   ·dsimp only
    exact ⟨by omega,by rw [hA]; exact mP _ _ (by rw [hln]; rfl)⟩
   ·dsimp only;omega
  ·(refine ⟨?_, rfl⟩; simp only [aO, AV.v.injEq, Value.bool.injEq, Value.int.injEq, true_and])
   rw [hA,show k = pts.length by omega]; rfl
 ·have hy := fun (h : k < pts.length) => pH w h hln
  repeat' (first|(apply aF;first|(apply kM;rfl;rfl;infer_instance;omega;rfl;(case' kk => intro hsm))|(apply aA (k := 233);rfl;(apply nI);exact Pur.pf;rfl))|refine aE ?_|(refine aK ?_ ?_ <;> intro hc hq <;> try (exfalso;omega))|refine cZ ?_|fail)
  ·(refine bC (k + 1, _) (Le.renA []) ?_ ?_)
   ·dsimp only
    exact ⟨by omega,by rw [hA]; exact sD _ _ (by rw [hln,Bool.true_and]; exact (m8 _ _).1 hq)⟩
   ·dsimp only;omega
  ·(refine bC (k + 1, A) (Le.renA []) ?_ ?_)
   ·dsimp only
    exact ⟨by omega,by rw [hA]; exact mP _ _ (by rw [hln,Bool.true_and]; cases hb : V.testBit (pts[k]!.y.toNat) with|false => rfl|true => exact absurd ((m8 _ _).2 hb) hq)⟩
   ·dsimp only;omega
  ·(refine ⟨?_, rfl⟩; simp only [aO, AV.v.injEq, Value.bool.injEq, Value.int.injEq, true_and])
   rw [hA,show k = pts.length by omega]; rfl
theorem JE (ts:List Int) (bd:List AL.Stmt) (pts:List Pnt) (A:List Nat) (w:WG ts pts) (hA:sR ts pts A):PC Tryz.prog 184 [aG ts bd pts] (fun r => r = .imm pts.length (flat cW A)):=by
 have hpl := w.pl
 have hp0 := w.p0
 have htl := w.tl
 have fl := Rq w
 refine aB Tryz.func184 Tryz.ntmps184 ?_
 repeat' (first|refine aE ?_|fail)
 refine aH (σ := List Nat × Bool) [0,3] [] (fun s => [(4,bv s.2)]) (fun s => [(0,some (flat cW s.1))]) (fun s => SG pts (R5 ts pts) s.1 ∧ (s.2 = false → lM oT (zI ts pts) pts s.1)) (fun s => 2 * fL (s.1.map (fun a => 2 ^ pts.length - a)) + s.2.toNat) (List.replicate pts.length 0,true) ⟨Df fun i hi => ⟨Nat.pow_pos (by decide),fun v h => by simp at h⟩,fun h => by cases h⟩ ?_
 rintro ⟨s,b⟩ ⟨hS,hC⟩
 dsimp only at hS hC ⊢
 repeat' (first|refine aE ?_|(refine aK ?_ ?_ <;> intro hc hq <;> try (exfalso;omega))|fail)
 ·refine aH (σ := Nat × (List Nat × Bool)) [0, 3, 20, 21] [] (fun k => [(22, iv (k.1 : Int)), (4, bv k.2.2)]) (fun k => [(0, some (flat cW k.2.1))]) (fun k => k.1 ≤ pts.length ∧ k.2 = (List.range k.1).foldl (A6 oT (zI ts pts) pts) (s, false) ∧ SG pts (R5 ts pts) k.2.1) (fun k => pts.length - k.1) (0, (s, false)) ⟨by omega, rfl, hS⟩ ?_
  rintro ⟨k,u,c⟩ ⟨hk,hf,hS2⟩
  dsimp only at hk hf hS2 ⊢
  have hul := hS2.1
  by_cases hkn : k < pts.length
  ·have hst := (w.set k hkn).1
   have hsm : ∀ z : Nat, Sm u[z]! := by
    intro z
    by_cases hz : z < pts.length
    ·exact ⟨Nat.lt_of_lt_of_le (hS2.2 z hz).1 (Nat.pow_le_pow_right (by decide) (by omega))⟩
    ·rw [getElem!_neg u z (by rw [hul]; exact hz)]; exact ⟨by decide⟩
   have hs1 : Sm (wS ts pts[k]! [2]) := b9 (by omega)
   have hs2 : Sm (iN pts[k]!) := tV (by omega)
   have hs3 : ∀ V,Sm (tE pts V) := fun V => Kq w V
   have hnl := w.nl k hkn
   have e1 : cC pts[k]! = true → oK u[k]! (tE pts (wS ts pts[k]! [2] ||| iN pts[k]!)) ||| 2 ^ (k : Int).toNat = zI ts pts k u[k]! := fun h => by unfold zI P4;rw [if_pos h]; rfl
   have e0 : cC pts[k]! = false → oK u[k]! (tE pts (wS ts pts[k]! [2] ||| iN pts[k]!)) = zI ts pts k u[k]! := fun h => by unfold zI P4;rw [if_neg (by rw [h]; simp),Nat.or_zero]
   have hps : Sm (zI ts pts k u[k]!) := ⟨Nat.lt_of_lt_of_le (Es w hkn (hS2.2 k hkn).1) (Nat.pow_le_pow_right (by decide) (by omega))⟩
   repeat' (first|(apply aF;first|(apply kM;rfl;rfl;infer_instance;omega;rfl;(case' kk => intro hsm))|(first|(apply aA (k := 142);rfl;(apply tK <;> (assumption));exact Pur.pf;rfl)|(apply aA (k := 182);rfl;(apply qQ <;> (omega));exact Pur.pf;rfl)|(apply aA (k := 233);rfl;(apply nI);exact Pur.pf;rfl)|(apply aA (k := 235);rfl;(apply CP <;> (first|assumption|infer_instance));exact Pur.pf;rfl)))|refine aE ?_|(refine aK ?_ ?_ <;> intro hc hq <;> try (exfalso;omega))|refine bS ?_|fail)
   all_goals first|rw [e1 (by assumption)]|rw [e0 (by assumption)]
   all_goals
    refine aH (σ := Nat × (List Nat × Bool)) [0,3,7,20,21,22,47,48] [] (fun j => [(49,iv (j.1 : Int)),(4,bv j.2.2)]) (fun j => [(0,some (flat cW j.2.1))]) (fun j => j.1 ≤ pts[k]!.next.length ∧ j.2 = ((xA pts k).take j.1).foldl (lR oT (zI ts pts k u[k]!)) (u,c) ∧ SG pts (R5 ts pts) j.2.1) (fun j => pts[k]!.next.length - j.1) (0,(u,c)) ⟨by omega,rfl,hS2⟩ ?_
    rintro ⟨j,u2,c2⟩ ⟨hj,hf2,hS3⟩
    dsimp only at hj hf2 hS3 ⊢
    have hul2 := hS3.1
    have hsm2 : ∀ z : Nat, Sm u2[z]! := by
     intro z
     by_cases hz : z < pts.length
     ·exact ⟨Nat.lt_of_lt_of_le (hS3.2 z hz).1 (Nat.pow_le_pow_right (by decide) (by omega))⟩
     ·rw [getElem!_neg u2 z (by rw [hul2]; exact hz)]; exact ⟨by decide⟩
    have hz : j < pts[k]!.next.length → 0 ≤ pts[k]!.next[j]! ∧ pts[k]!.next[j]! < pts.length := fun h => w.nx k hkn _ (aU _ _ h)
    repeat' (first|refine aE ?_|(refine aK ?_ ?_ <;> intro hc hq <;> try (exfalso;omega))|refine bS ?_|fail)
    ·have hzz := hz (by omega)
     have hed : cF pts k (pts[k]!.next[j]!).toNat := ⟨hkn,by rw [Int.toNat_of_nonneg hzz.1]; exact aU _ _ (by omega)⟩
     have hne : oT u2[(pts[k]!.next[j]!).toNat]! (zI ts pts k u[k]!) ≠ u2[(pts[k]!.next[j]!).toNat]! := fun h => hq (congrArg Int.ofNat h)
     (refine bC (j + 1,(_,true)) (Le.renA [(0,0)]) ?_ ?_)
     ·dsimp only
      refine ⟨by omega,?_,Ba fl w (hS2.2 k hkn) hed hS3⟩
      rw [jN (by omega),← hf2,A5 hne]
     ·dsimp only;omega
    ·have hzz := hz (by omega)
     have hne : oT u2[(pts[k]!.next[j]!).toNat]! (zI ts pts k u[k]!) = u2[(pts[k]!.next[j]!).toNat]! := Int.ofNat.inj hq
     (refine bC (j + 1,(u2,c2)) (Le.renA [(0,0)]) ?_ ?_)
     ·dsimp only
      refine ⟨by omega,?_,hS3⟩
      rw [jN (by omega),← hf2,z6 hne]
     ·dsimp only;omega
    ·(refine bC (k + 1, (u2, c2)) (Le.renA [(0, 0)]) ?_ ?_)
     ·dsimp only
      refine ⟨by omega,?_,hS3⟩
      rw [dZ,← hf,hf2,List.take_of_length_le (by rw [lT]; omega)]; rfl
     ·dsimp only;omega
  ·repeat' (first | refine aE ?_ | (refine aK ?_ ?_ <;> intro hc hq <;> try (exfalso; omega))|fail)
   have law := vF w fl s false hS
   have hfull : (u, c) = AR oT (zI ts pts) pts (s, false) := by
    rw [hf,show k = pts.length by omega]; rfl
   rw [← hfull] at law
   (refine bC (u,c) (Le.renA [(0,0)]) ?_ ?_)
   ·dsimp only
    refine ⟨hS2,fun h => ?_⟩
    rcases law.2 with ⟨e1,e2⟩ | ⟨e1,_⟩
    ·cases e1;exact e2
    ·dsimp only at e1;rw [h] at e1;cases e1
   ·dsimp only
    have hb : b = true := by assumption
    subst hb
    rcases law.2 with ⟨e1,e2⟩ | ⟨e1,e2⟩
    ·cases e1;simp
    ·dsimp only at e1 e2;subst e1;omega
 ·have hb : b = false := by assumption
  refine aR (Le.frzD (d := 2) (i := 0) rfl rfl) ?_
  refine aC rfl ⟨?_,(by (exact bF _ _))⟩
  simp only [aO]
  rw [HF hA (Km w hS (hC hb))]
theorem DC (ts:List Int) (bd:List AL.Stmt) (pts:List Pnt) (i:Int) (f:List Nat) (w:WG ts pts) (hi:0 ≤ i ∧ i < pts.length) (hf:f.length = 6) (hs:∀ z:Nat,Sm f[z]!):PC Tryz.prog 183 [aG ts bd pts,iv i,.agg (flat cW f)] (fun r => r = .agg (flat cW (A9 ts pts i.toNat f))):=by
 have hpl := w.pl
 have htl := w.tl
 have hin : i.toNat < pts.length := by omega
 have hst := (w.set i.toNat hin)
 have hy := w.y i.toNat hin
 have hbl := cP (wS ts pts[i.toNat]! [2])
 have hT : Sm (wS ts pts[i.toNat]! [2]) := b9 (by omega)
 refine aB Tryz.func183 Tryz.ntmps183 ?_
 repeat' (first|(apply aF;(first|(apply aA (k := 120);rfl;(apply gM <;> (assumption));(rfl);rfl)|(apply aA (k := 142);rfl;(apply tK <;> (assumption));exact Pur.pf;rfl)))|refine aE ?_|fail)
 refine aH (σ := Nat × List Nat) [0,1,5,6,7,8,23,24] [0,1,2] (fun k => [(25,iv (k.1 : Int))]) (fun k => [(3,some (flat cW k.2))]) (fun k => k.1 ≤ (a8 (wS ts pts[i.toNat]! [2])).length ∧ k.2 = oR ((a8 (wS ts pts[i.toNat]! [2])).take k.1) f ∧ k.2.length = 6) (fun k => (a8 (wS ts pts[i.toNat]! [2])).length - k.1) (0,f) ⟨by omega,rfl,hf⟩ ?_
 rintro ⟨k,u⟩ ⟨hk,hu,hul⟩
 dsimp only at hk hu hul ⊢
 have hbb : k < (a8 (wS ts pts[i.toNat]! [2])).length → 0 ≤ (a8 (wS ts pts[i.toNat]! [2]))[k]! ∧ (a8 (wS ts pts[i.toNat]! [2]))[k]! < ts.length := fun h => m7 (x7 (fun v => decide (aQ ts pts[i.toNat]! v ∈ [2])) ts.length) h
 have husm : ∀ z : Nat,Sm u[z]! := by intro z;rw [hu]; exact QA hs z
 have hset : ∀ (k a : Nat) [Sm a] (z : Nat),Sm (u.set k a)[z]! := fun k a h z => DM husm h z
 have hset2 : ∀ (k a k2 a2 : Nat) [Sm a] [Sm a2] (z : Nat),Sm ((u.set k a).set k2 a2)[z]! := fun k a k2 a2 h h2 z => DM (DM husm h) h2 z
 by_cases hkn : k < (a8 (wS ts pts[i.toNat]! [2])).length
 ·have hbk := hbb hkn
  repeat' (first|refine aE ?_|(refine aK ?_ ?_ <;> intro hc hq <;> try (exfalso;omega))|fail)
  (refine bC (k + 1,u.set ((a8 (wS ts pts[i.toNat]! [2]))[k]!).toNat 0) (Le.renA [(0,0),(1,1),(2,2),(3,3)]) ?_ ?_)
  ·dsimp only
   exact ⟨by omega,by rw [GY hkn,← hu],by simpa using hul⟩
  ·dsimp only;omega
 ·have hu' : u = oR (a8 (wS ts pts[i.toNat]! [2])) f := by rw [hu, List.take_of_length_le (by omega)]
  cases hln : cC pts[i.toNat]!
  ·repeat' (first | (apply aF; (first | (apply aA (k := 143);rfl;(apply zU);exact Pur.pf;rfl) | (apply aA (k := 233);rfl;(apply nI);exact Pur.pf;rfl))) | refine aE ?_ | (refine aK ?_ ?_ <;> intro hc hq <;> try (exfalso; omega)) | refine bS ?_|fail)
   all_goals (refine aC (oS (z := 6) rfl rfl (by first|exact hul|(simp only [List.length_set]; exact hul)) (by decide)) ⟨?_,(by (exact bF _ _))⟩)
   all_goals simp only [aO,A9,← hu',hln,Bool.false_eq_true,false_and,false_or,if_false]
   all_goals congr 2
   all_goals grind
  ·have hop := pN hln
   repeat' (first|(apply aF;first|(apply kM;rfl;rfl;infer_instance;omega;rfl;(case' kk => intro hsm))|(first|(apply aA (k := 143);rfl;(apply zU);exact Pur.pf;rfl)|(apply aA (k := 233);rfl;(apply nI);exact Pur.pf;rfl)|(apply aA (k := 234);rfl;(apply Cj);(rfl);rfl)))|refine aE ?_|(refine aK ?_ ?_ <;> intro hc hq <;> try (exfalso;omega))|(refine bQ ?_ ?_ <;> intro hg hq <;> try (exfalso;omega))|refine bS ?_|fail)
   all_goals (refine aC (oS (z := 6) rfl rfl (by first|exact hul|(simp only [List.length_set]; exact hul)) (by decide)) ⟨?_,(by (exact bF _ _))⟩)
   all_goals simp only [aO,A9,← hu',hln,true_and,if_true]
   all_goals congr 2
   all_goals grind
theorem yL (ts:List Int) (bd:List AL.Stmt) (pts:List Pnt) (A:List Nat) (w:WG ts pts) (hA:sV ts pts A):PC Tryz.prog 104 [aG ts bd pts] (fun r => r = .imm pts.length (flat cW A)):=by
 have hpl := w.pl
 have hp0 := w.p0
 have htl := w.tl
 refine aB Tryz.func104 Tryz.ntmps104 ?_
 repeat' (first|refine aE ?_|fail)
 refine aH (σ := List Nat × Bool) [0,3] [] (fun s => [(4,bv s.2)]) (fun s => [(0,some (flat cW s.1))]) (fun s => SF ts pts s.1 ∧ (s.2 = false → Bc ts pts s.1)) (fun s => 2 * fL (s.1.map (fun x => 2 ^ pts.length - x)) + s.2.toNat) (List.replicate (pts.length * 6) 0,true) ⟨Qg,fun h => by cases h⟩ ?_
 rintro ⟨s,b⟩ ⟨hS,hC⟩
 dsimp only at hS hC ⊢
 repeat' (first|refine aE ?_|(refine aK ?_ ?_ <;> intro hc hq <;> try (exfalso;omega))|fail)
 ·refine aH (σ := Nat × (List Nat × Bool)) [0, 3, 22, 23] [] (fun k => [(24, iv (k.1 : Int)), (4, bv k.2.2)]) (fun k => [(0, some (flat cW k.2.1))]) (fun k => k.1 ≤ pts.length ∧ k.2 = (List.range k.1).foldl (En ts pts) (s, false) ∧ SF ts pts k.2.1) (fun k => pts.length - k.1) (0, (s, false)) ⟨by omega, rfl, hS⟩ ?_
  rintro ⟨i,u,c⟩ ⟨hk,hf,hS2⟩
  dsimp only at hk hf hS2 ⊢
  have hul := hS2.1
  have hsm : ∀ z : Nat,Sm u[z]! := OL w hS2
  by_cases hin : i < pts.length
  ·have hnl := w.nl i hin
   have hrl : ((u.drop (i * 6)).take 6).length = 6 := gW hul hin
   have hrs : ∀ z : Nat, Sm ((u.drop (i * 6)).take 6)[z]! := by
    intro z
    by_cases hz : z < 6
    ·have := fH hul hin hz;unfold dA at this;rw [this]; exact hsm _
    ·rw [getElem!_neg _ z (by rw [hrl]; exact hz)]; exact ⟨by decide⟩
   have hcl : (A9 ts pts (i : Int).toNat ((u.drop (i * 6)).take 6)).length = 6 := (N6 ts pts i ((u.drop (i * 6)).take 6)).trans hrl
   repeat' (first|(apply aF;(apply aA (k := 183);rfl;(apply DC <;> (first|assumption|omega));exact Pur.pf;rfl))|refine aE ?_|(refine aK ?_ ?_ <;> intro hc hq <;> try (exfalso;omega))|fail)
   generalize hcf : A9 ts pts (i : Int).toNat ((u.drop (i * 6)).take 6) = a at hcl
   have hcf' : A9 ts pts i (dA u i) = a := hcf
   have hasnd : ∀ k,cF pts i k → ∀ v,v < 6 → RX ts pts k v a[v]! := fun k e v hv => by rw [← hcf']; exact Fk w hS2 e hv
   refine aH (σ := Nat × (List Nat × Bool)) [0,3,7,22,23,24,37,38] [2] (fun j => [(39,iv (j.1 : Int)),(4,bv j.2.2)]) (fun j => [(0,some (flat cW j.2.1))]) (fun j => j.1 ≤ pts[i]!.next.length ∧ j.2 = ((xA pts i).take j.1).foldl (xP a) (u,c) ∧ SF ts pts j.2.1) (fun j => pts[i]!.next.length - j.1) (0,(u,c)) ⟨by omega,rfl,hS2⟩ ?_
   rintro ⟨j,u2,c2⟩ ⟨hj,hf2,hS3⟩
   dsimp only at hj hf2 hS3 ⊢
   have hul2 := hS3.1
   by_cases hjn : j < pts[i]!.next.length
   ·have hzz : 0 ≤ pts[i]!.next[j]! ∧ pts[i]!.next[j]! < pts.length := w.nx i hin _ (aU _ _ hjn)
    have hed : cF pts i (pts[i]!.next[j]!).toNat := ⟨hin,by rw [Int.toNat_of_nonneg hzz.1]; exact aU _ _ hjn⟩
    have hap := hasnd _ hed
    have hasm : ∀ z : Nat, Sm a[z]! := by
     intro z
     by_cases hz : z < 6
     ·exact ⟨Nat.lt_of_lt_of_le (hap z hz).1 (Nat.pow_le_pow_right (by decide) (by omega))⟩
     ·rw [getElem!_neg a z (by rw [hcl]; exact hz)]; exact ⟨by decide⟩
    repeat' (first|refine aE ?_|(refine aK ?_ ?_ <;> intro hc hq <;> try (exfalso;omega))|fail)
    refine aH (σ := Nat × (List Nat × Bool)) [0,3,7,9,22,23,24,37,38,39,43] [2] (fun v => [(44,iv (v.1 : Int)),(4,bv v.2.2)]) (fun v => [(0,some (flat cW v.2.1))]) (fun v => v.1 ≤ 6 ∧ v.2 = (List.range v.1).foldl (rY a (pts[i]!.next[j]!).toNat) (u2,c2) ∧ SF ts pts v.2.1) (fun v => 6 - v.1) (0,(u2,c2)) ⟨by omega,rfl,hS3⟩ ?_
    rintro ⟨v,u3,c3⟩ ⟨hv,hf3,hS4⟩
    dsimp only at hv hf3 hS4 ⊢
    have hul3 := hS4.1
    have hsm3 : ∀ z : Nat,Sm u3[z]! := OL w hS4
    by_cases hvn : v < 6
    ·have hlaw := CR (cT w hed) hap u3 c3 v hvn hS4
     repeat' (first|refine aE ?_|(refine aK ?_ ?_ <;> intro hc hq <;> try (exfalso;omega))|refine bS ?_|fail)
     ·have hne : oT u3[(pts[i]!.next[j]!).toNat * 6 + v]! a[v]! ≠ u3[(pts[i]!.next[j]!).toNat * 6 + v]! := fun h => hq (congrArg Int.ofNat h)
      have e1 : rY a (pts[i]!.next[j]!).toNat (u3,c3) v = (u3.set ((pts[i]!.next[j]!).toNat * 6 + v) (oT u3[(pts[i]!.next[j]!).toNat * 6 + v]! a[v]!),true) := A5 hne
      rw [e1] at hlaw
      (refine bC (v + 1,(_,true)) (Le.renA [(0,0),(2,2)]) ?_ ?_)
      ·dsimp only
       refine ⟨by omega,?_,hlaw.1⟩
       rw [y8,← hf3,e1]; rfl
      ·dsimp only;omega
     ·have hne : oT u3[(pts[i]!.next[j]!).toNat * 6 + v]! a[v]! = u3[(pts[i]!.next[j]!).toNat * 6 + v]! := Int.ofNat.inj hq
      have e1 : rY a (pts[i]!.next[j]!).toNat (u3,c3) v = (u3,c3) := z6 hne
      (refine bC (v + 1,(u3,c3)) (Le.renA [(0,0),(2,2)]) ?_ ?_)
      ·dsimp only
       refine ⟨by omega,?_,hS4⟩
       rw [y8,← hf3,e1]
      ·dsimp only;omega
    ·have hv6 : v = 6 := by omega
     subst hv6
     repeat' (first|refine aE ?_|fail)
     (refine bC (j + 1,(u3,c3)) (Le.renA [(0,0),(2,2)]) ?_ ?_)
     ·dsimp only
      refine ⟨by omega,?_,hS4⟩
      rw [Hn hjn,← hf2,hf3]; rfl
     ·dsimp only;omega
   ·repeat' (first | refine aE ?_ | (refine aK ?_ ?_ <;> intro hc hq <;> try (exfalso; omega))|fail)
    (refine bC (i + 1,(u2,c2)) (Le.renA [(0,0)]) ?_ ?_)
    ·dsimp only
     refine ⟨by omega,?_,hS3⟩
     rw [dZ,← hf,hf2,List.take_of_length_le (by rw [lT]; omega),← hcf']; rfl
    ·dsimp only;omega
  ·repeat' (first | refine aE ?_ | (refine aK ?_ ?_ <;> intro hc hq <;> try (exfalso; omega))|fail)
   have law := JT w s false hS
   have hfull : (u, c) = H9 ts pts (s, false) := by
    rw [hf,show i = pts.length by omega]; rfl
   rw [← hfull] at law
   (refine bC (u,c) (Le.renA [(0,0)]) ?_ ?_)
   ·dsimp only
    refine ⟨hS2,fun h => ?_⟩
    rcases law.2 with ⟨e1,e2⟩ | ⟨e1,_⟩
    ·cases e1;exact e2
    ·dsimp only at e1;rw [h] at e1;cases e1
   ·dsimp only
    have hb : b = true := by assumption
    subst hb
    rcases law.2 with ⟨e1,e2⟩ | ⟨e1,e2⟩
    ·cases e1;simp
    ·dsimp only at e1 e2;subst e1;omega
 ·have hb : b = false := by assumption
  refine aR (Le.frzD (d := 2) (i := 0) rfl rfl) ?_
  refine aC rfl ⟨?_,(by (exact bF _ _))⟩
  simp only [aO]
  rw [G5 hA (JF w hS (hC hb))]
theorem Pq (ts:List Int) (bd:List AL.Stmt) (pts:List Pnt) (i:Int) (lv:Nat) (f:List Nat) (w:WG ts pts) (hi:0 ≤ i ∧ i < pts.length) (hlv:lv < 2 ^ ts.length) (hf:f.length = 6) (hs:∀ z:Nat,Sm f[z]!):PC Tryz.prog 186 [aG ts bd pts,iv i,iv (lv:Int),.agg (flat cW f)] (fun r => r = .v (.int .u64 (x9 ts pts[i.toNat]! lv f:Nat))):=by
 have hpl := w.pl
 have htl := w.tl
 have hin : i.toNat < pts.length := by omega
 have hst := (w.set i.toNat hin)
 have hsl : Sm lv := ⟨Nat.lt_of_lt_of_le hlv (Nat.pow_le_pow_right (by decide) (by omega))⟩
 have hT : Sm (wS ts pts[i.toNat]! [2]) := b9 (by omega)
 have hB : Sm (iN pts[i.toNat]!) := tV (by omega)
 have hbl := cP (oK lv (wS ts pts[i.toNat]! [2] ||| iN pts[i.toNat]!))
 have hlt : oK lv (wS ts pts[i.toNat]! [2] ||| iN pts[i.toNat]!) < 2 ^ ts.length := Nat.xor_lt_two_pow hlv (Nat.lt_of_le_of_lt Nat.and_le_left hlv)
 refine aB Tryz.func186 Tryz.ntmps186 ?_
 repeat' (first|(apply aF;(first|(apply aA (k := 120);rfl;(apply gM <;> (infer_instance));(rfl);rfl)|(apply aA (k := 142);rfl;(apply tK <;> (assumption));exact Pur.pf;rfl)|(apply aA (k := 182);rfl;(apply qQ <;> (omega));exact Pur.pf;rfl)))|refine aE ?_|refine bS ?_|fail)
 refine aH (σ := Nat × Nat) [7,28,29] [0] (fun k => [(30,iv (k.1 : Int)),(10,.v (.int .u64 (k.2 : Int)))]) (fun k => []) (fun k => k.1 ≤ (a8 (oK lv (wS ts pts[i.toNat]! [2] ||| iN pts[i.toNat]!))).length ∧ k.2 = Rb f ((a8 (oK lv (wS ts pts[i.toNat]! [2] ||| iN pts[i.toNat]!))).take k.1) 0 ∧ Sm k.2) (fun k => (a8 (oK lv (wS ts pts[i.toNat]! [2] ||| iN pts[i.toNat]!))).length - k.1) (0,0) ⟨by omega,rfl,inferInstance⟩ ?_
 rintro ⟨k,a⟩ ⟨hk,ha,hsa⟩
 dsimp only at hk ha hsa ⊢
 have hbb : k < (a8 (oK lv (wS ts pts[i.toNat]! [2] ||| iN pts[i.toNat]!))).length → 0 ≤ (a8 (oK lv (wS ts pts[i.toNat]! [2] ||| iN pts[i.toNat]!)))[k]! ∧ (a8 (oK lv (wS ts pts[i.toNat]! [2] ||| iN pts[i.toNat]!)))[k]! < ts.length := fun h => m7 hlt h
 repeat' (first|refine aE ?_|(refine aK ?_ ?_ <;> intro hc hq <;> try (exfalso;omega))|fail)
 ·(refine bC (k + 1, _) (Le.renA [(0, 0)]) ?_ ?_)
  ·dsimp only
   refine ⟨by omega,?_,inferInstance⟩
   rw [ha]; unfold Rb;rw [dU _ _ _ _ (by omega)]
  ·dsimp only;omega
 ·refine aC rfl ⟨?_, rfl⟩
  simp only [aO]
  rw [ha,List.take_of_length_le (by omega)]; rfl
theorem Ex (ts:List Int) (bd:List AL.Stmt) (pts:List Pnt) (x:Pnt) (mb:Nat) (htl:ts.length ≤ 6) (hmb:Sm mb) (hst:aM x < ts.length) (hy:0 ≤ x.y ∧ (3 ≤ x.op → x.op ≤ 7 → x.y < ts.length)):PC Tryz.prog 236 [aG ts bd pts,dP x,iv (mb:Int)] (fun r => r = sl G0 (jI ts x (mb.testBit (aM x).toNat))):=by
 refine aB Tryz.func236 Tryz.ntmps236 ?_
 repeat' (first|(apply aF;first|(apply lZ (d := 7) (e := 2);rfl;rfl)|(first|(apply aA (k := 143);rfl;(apply zU);exact Pur.pf;rfl)|(apply aA (k := 199);rfl;(apply AZ <;> (omega));exact Pur.pf;rfl)))|refine aE ?_|(refine aK ?_ ?_ <;> intro hc hq <;> try (exfalso;omega))|(refine bQ ?_ ?_ <;> intro hg hq <;> try (exfalso;omega))|fail)
 all_goals first|refine aR (Le.frzD (d := 6) (i := 1) rfl rfl) ?_|refine aR (Le.frzD (d := 6) (i := 3) rfl rfl) ?_|refine aR (Le.frzD (d := 6) (i := 5) rfl rfl) ?_
 all_goals refine aC rfl ⟨?_,(by (rfl))⟩
 all_goals simp only [aO,jI]
 all_goals have h1 := m8 mb (aM x).toNat
 all_goals (try (rw [if_neg (show ¬ (0 ≤ aM x ∧ ts[(aM x).toNat]! = 2 ∧ mb.testBit (aM x).toNat = true) from fun h => by omega)]))
 all_goals (simp_all <;> rfl)
theorem HV (ts:List Int) (bd:List AL.Stmt) (pts:List Pnt) (i:Int) (mb loans:Nat) (w:WG ts pts) (hi:0 ≤ i ∧ i < pts.length) (hmb:Sm mb) (hlo:loans < 2 ^ pts.length):PC Tryz.prog 185 [aG ts bd pts,iv i,iv (mb:Int),.v (.int .u64 (loans:Int))] (fun r => r = .v (.int .u64 (LK pts loans (jI ts pts[i.toNat]! (mb.testBit (aM pts[i.toNat]!).toNat)) 0:Nat))):=by
 have hpl := w.pl
 have htl := w.tl
 have hin : i.toNat < pts.length := by omega
 have hst := (w.set i.toNat hin).1
 have hy := w.y i.toNat hin
 have hx := w.x i.toNat hin
 have hop := w.op i.toNat hin
 have hlsm : Sm loans := ⟨Nat.lt_of_lt_of_le hlo (Nat.pow_le_pow_right (by decide) (by omega))⟩
 have hacc := Bf (mb.testBit (aM pts[i.toNat]!).toNat) w hin
 have hal := C3 ts pts[i.toNat]! (mb.testBit (aM pts[i.toNat]!).toNat)
 refine aB Tryz.func185 Tryz.ntmps185 ?_
 repeat' (first|(apply aF;(apply aA (k := 236);rfl;(apply Ex <;> (assumption));exact Pur.pf;rfl))|refine aE ?_|fail)
 generalize jI ts pts[i.toNat]! (mb.testBit (aM pts[i.toNat]!).toNat) = acs at hacc hal
 refine aH (σ := Nat × Nat) [0,3,23,24] [] (fun k => [(25,iv (k.1 : Int)),(9,.v (.int .u64 (k.2 : Int)))]) (fun k => []) (fun k => k.1 ≤ acs.length ∧ k.2 = LK pts loans (acs.take k.1) 0 ∧ k.2 < 2 ^ pts.length) (fun k => acs.length - k.1) (0,0) ⟨by omega,rfl,Nat.pow_pos (by decide)⟩ ?_
 rintro ⟨k,a⟩ ⟨hk,ha,hab⟩
 dsimp only at hk ha hab ⊢
 by_cases hkn : k < acs.length
 ·have hcv := hacc _ (aU acs k hkn)
  have hof : ∀ V,Sm (tE pts V) := fun V => Kq w V
  have hll := cP (loans &&& tE pts (2 ^ (acs[k]!.var).toNat))
  have hlb : loans &&& tE pts (2 ^ (acs[k]!.var).toNat) < 2 ^ pts.length := Nat.lt_of_le_of_lt Nat.and_le_left hlo
  have htk := dU (fun a c => Og pts c.write (a8 (loans &&& tE pts (2 ^ c.var.toNat))) a) acs 0 k hkn
  repeat' (first|(apply aF;first|(apply kM;rfl;rfl;infer_instance;omega;rfl;(case' kk => intro hsm))|(first|(apply aA (k := 76);rfl;(apply u7 <;> (infer_instance));(rfl);rfl)|(apply aA (k := 235);rfl;(apply CP <;> (assumption));exact Pur.pf;rfl)))|refine aE ?_|(refine aK ?_ ?_ <;> intro hc hq <;> try (exfalso;omega))|fail)
  refine aH (σ := Nat × Nat) [0,3,11,23,24,25,36,37] [0] (fun j => [(38,iv (j.1 : Int)),(9,.v (.int .u64 (j.2 : Int)))]) (fun j => []) (fun j => j.1 ≤ (a8 (loans &&& tE pts (2 ^ (acs[k]!.var).toNat))).length ∧ j.2 = Og pts acs[k]!.write ((a8 (loans &&& tE pts (2 ^ (acs[k]!.var).toNat))).take j.1) a ∧ j.2 < 2 ^ pts.length) (fun j => (a8 (loans &&& tE pts (2 ^ (acs[k]!.var).toNat))).length - j.1) (0,a) ⟨by omega,rfl,hab⟩ ?_
  rintro ⟨j,b⟩ ⟨hj,hb,hbb⟩
  dsimp only at hj hb hbb ⊢
  have hbsm : Sm b := ⟨Nat.lt_of_lt_of_le hbb (Nat.pow_le_pow_right (by decide) (by omega))⟩
  by_cases hjn : j < (a8 (loans &&& tE pts (2 ^ (acs[k]!.var).toNat))).length
  ·have hlz := m7 hlb hjn
   have hstep : Og pts acs[k]!.write ((a8 (loans &&& tE pts (2 ^ (acs[k]!.var).toNat))).take (j + 1)) a = if acs[k]!.write = true ∨ pts[((a8 (loans &&& tE pts (2 ^ (acs[k]!.var).toNat)))[j]!).toNat]!.op = 5 then b ||| 2 ^ ((a8 (loans &&& tE pts (2 ^ (acs[k]!.var).toNat)))[j]!).toNat else b := by
    rw [hb]; unfold Og;rw [dU _ _ _ _ hjn]
   have hb2 : b ||| 2 ^ ((a8 (loans &&& tE pts (2 ^ (acs[k]!.var).toNat)))[j]!).toNat < 2 ^ pts.length := Nat.or_lt_two_pow hbb (Nat.pow_lt_pow_right (by decide) (by omega))
   repeat' (first|(apply aF;(apply kM;rfl;rfl;infer_instance;omega;rfl;(case' kk => intro hsm)))|refine aE ?_|(refine aK ?_ ?_ <;> intro hc hq <;> try (exfalso;omega))|(refine bQ ?_ ?_ <;> intro hg hq <;> try (exfalso;omega))|fail)
   all_goals first
    | ((refine bC (j + 1, b ||| 2 ^ ((a8 (loans &&& tE pts (2 ^ (acs[k]!.var).toNat)))[j]!).toNat) (Le.renA [(0, 0)]) ?_ ?_)
       ·dsimp only
        refine ⟨by omega,?_,hb2⟩
        rw [hstep,if_pos (by first|exact .inl (by assumption)|exact .inr (by assumption))]
       ·dsimp only;omega)
    | ((refine bC (j + 1, b) (Le.renA [(0, 0)]) ?_ ?_)
       ·dsimp only
        refine ⟨by omega,?_,hbb⟩
        rw [hstep,if_neg (fun h => h.elim (fun h1 => Bool.noConfusion (h1.symm.trans (by assumption : acs[k]!.write = false))) (fun h2 => absurd h2 (by assumption)))]
       ·dsimp only;omega)
  ·repeat' (first | refine aE ?_ | (refine aK ?_ ?_ <;> intro hc hq <;> try (exfalso; omega))|fail)
   (refine bC (k + 1,b) (Le.renA []) ?_ ?_)
   ·dsimp only
    refine ⟨by omega,?_,hbb⟩
    rw [hb,List.take_of_length_le (by omega),ha]; unfold LK;rw [htk]
   ·dsimp only;omega
 ·repeat' (first | refine aE ?_ | (refine aK ?_ ?_ <;> intro hc hq <;> try (exfalso; omega))|fail)
  refine aC rfl ⟨?_,rfl⟩
  simp only [aO]
  rw [ha,List.take_of_length_le (by omega)]
end Go.Proofs.YtahdccneecdmmaaGreat
