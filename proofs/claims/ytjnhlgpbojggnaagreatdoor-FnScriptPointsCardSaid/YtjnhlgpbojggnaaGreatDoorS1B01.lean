/-
 A part of the proofs over this program: rules and contracts of its functions (the contracts).
-/
import Derived.Test.YtjnhlgpbojggnaaGreatDoorS1A05
import Derived.Test.YtjnhlgpbojggnaaGreatDoorRows
set_option linter.unusedVariables false
set_option linter.unusedSimpArgs false
set_option maxHeartbeats 8000000
set_option maxRecDepth 4000
attribute [local irreducible] Go.AL.RW Go.AL.AW Go.AL.Stop
namespace Go.Proofs.YtjnhlgpbojggnaaGreatDoor
open Go.AL
theorem within_c (a b c:Int):PC Tryz.prog 35 [iv a,iv b,iv c] (fun r => r = bv (decide (b ≤ a) && decide (a ≤ c))):=by
 refine pc_start Tryz.func35 Tryz.ntmps35 ?_
 repeat' (first|refine stpb ?_|(refine stp3 ?_ ?_ <;> intro hg hq <;> try (exfalso;omega))|refine stpr ?_|fail)
 all_goals (refine ⟨?_,rfl⟩; simp only [oneOf,AV.v.injEq,Value.bool.injEq,Value.int.injEq,true_and])
 all_goals grind
theorem isRefI_c (t:Int):PC Tryz.prog 265 [iv t] (fun r => r = bv (isRef t)):=by
 refine pc_start Tryz.func265 Tryz.ntmps265 ?_
 repeat' (first|refine stpb ?_|(refine stp3 ?_ ?_ <;> intro hg hq <;> try (exfalso;omega))|refine stpr ?_|fail)
 all_goals (refine ⟨?_,rfl⟩; simp only [oneOf,AV.v.injEq,Value.bool.injEq,Value.int.injEq,true_and])
 all_goals grind [isRef]
theorem isHolder_c (t:Int):PC Tryz.prog 209 [iv t] (fun r => r = bv (decide (t = 2) || isRef t)):=by
 refine pc_start Tryz.func209 Tryz.ntmps209 ?_
 repeat' (first|(apply id_rw;(apply rx_callE (k := 265);rfl;(apply isRefI_c);(rfl);rfl))|refine stpb ?_|(refine stp3 ?_ ?_ <;> intro hg hq <;> try (exfalso;omega))|refine stpr ?_|fail)
 all_goals (refine ⟨?_,rfl⟩; simp only [oneOf,AV.v.injEq,Value.bool.injEq,Value.int.injEq,true_and])
 all_goals grind
theorem isBranch_c (t:Int):PC Tryz.prog 143 [iv t] (fun r => r = bv (decide (t = 9) || decide (t = 10))):=by
 refine pc_start Tryz.func143 Tryz.ntmps143 ?_
 repeat' (first|refine stpb ?_|(refine stp3 ?_ ?_ <;> intro hg hq <;> try (exfalso;omega))|refine stpr ?_|fail)
 all_goals (refine ⟨?_,rfl⟩; simp only [oneOf,AV.v.injEq,Value.bool.injEq,Value.int.injEq,true_and])
 all_goals grind
theorem l1Type_c (ts:List Int) (v:Int):PC Tryz.prog 264 [sl cI ts,iv v] (fun r => r = iv (typeAt ts v)):=by
 refine pc_start Tryz.func264 Tryz.ntmps264 ?_
 repeat' (first|refine stpb ?_|(refine stp2 ?_ ?_ <;> intro hc hq <;> try (exfalso;omega))|(refine stp3 ?_ ?_ <;> intro hg hq <;> try (exfalso;omega))|refine stpr ?_|fail)
 all_goals (refine ⟨?_,rfl⟩; simp only [oneOf,AV.v.injEq,Value.bool.injEq,Value.int.injEq,true_and])
 all_goals grind [typeAt]
theorem typeOf_c (ts:List Int) (v:Int) (hl:ts.length ≤ 1048576):PC Tryz.prog 208 [sl cI ts,iv v] (fun r => r = iv (typeAt ts v)):=by
 refine pc_start Tryz.func208 Tryz.ntmps208 ?_
 repeat' (first|(apply id_rw;(apply rx_callE (k := 35);rfl;(apply within_c);(rfl);rfl))|refine stpb ?_|(refine stp2 ?_ ?_ <;> intro hc hq <;> try (exfalso;omega))|refine stpr ?_|fail)
 all_goals (refine ⟨?_,rfl⟩; simp only [oneOf,AV.v.injEq,Value.bool.injEq,Value.int.injEq,true_and])
 all_goals grind [typeAt]
theorem simpleOk_c (ts:List Int) (s:AL.Stmt) (hl:typesOk ts = true):PC Tryz.prog 144 [sl cI ts,aStmt s] (fun r => r = bv (s.th.isEmpty && s.el.isEmpty && simpleF ts s)):=by
 have hl2 := typesOk_len hl
 have hx := typeAt_bd hl s.x
 have hy := typeAt_bd hl s.y
 refine pc_start Tryz.func144 Tryz.ntmps144 ?_
 repeat' (first|(apply id_rw;(first|(apply rx_callE (k := 35);rfl;(apply within_c);(rfl);rfl)|(apply rx_callE (k := 208);rfl;(apply typeOf_c <;> (omega));exact Pur.pf;rfl)|(apply rx_callE (k := 209);rfl;(apply isHolder_c);(rfl);rfl)))|refine stpb ?_|(refine stp2 ?_ ?_ <;> intro hc hq <;> try (exfalso;omega))|(refine stp3 ?_ ?_ <;> intro hg hq <;> try (exfalso;omega))|refine stpd ?_|refine stpr ?_|fail)
 all_goals (refine ⟨?_,rfl⟩; simp only [oneOf,AV.v.injEq,Value.bool.injEq,Value.int.injEq,true_and])
 all_goals (cases hth : s.th <;> cases hel : s.el <;> simp only [hth,hel,List.length_nil,List.length_cons,List.isEmpty_nil,List.isEmpty_cons,Bool.true_and,Bool.false_and] at *)
 all_goals (try unfold simpleF)
 all_goals (try simp only [isRef,Bool.or_eq_true,Bool.or_eq_false_iff,decide_eq_true_eq,decide_eq_false_iff_not] at *)
 all_goals grind
theorem l1Simple_c (ts:List Int) (s:AL.Stmt) (hl:typesOk ts = true):PC Tryz.prog 205 [sl cI ts,aStmt s] (fun r => r = bv (simpleF ts s)):=by
 have hl2 := typesOk_len hl
 have hx := typeAt_bd hl s.x
 have hy := typeAt_bd hl s.y
 refine pc_start Tryz.func205 Tryz.ntmps205 ?_
 repeat' (first|(apply id_rw;(apply rx_callE (k := 264);rfl;(apply l1Type_c);exact Pur.pf;rfl))|refine stpb ?_|(refine stp2 ?_ ?_ <;> intro hc hq <;> try (exfalso;omega))|(refine stp3 ?_ ?_ <;> intro hg hq <;> try (exfalso;omega))|refine stpr ?_|fail)
 all_goals (refine ⟨?_,rfl⟩; simp only [oneOf,AV.v.injEq,Value.bool.injEq,Value.int.injEq,true_and])
 all_goals (try unfold simpleF)
 all_goals grind
theorem l1Stmt_c0 (ts:List Int) (hl:typesOk ts = true) (m:Nat) (ih:∀ l (d:Int),cntL l < m → 0 ≤ d → d ≤ 1000 → PC Tryz.prog 90 [sl cI ts,sl cStmt l,iv d] (fun r => r = bv (okL ts d.toNat l))) (s:AL.Stmt) (d:Int) (hs:cntS s ≤ m) (hd0:0 ≤ d) (hd:d ≤ 1000) :
  PC Tryz.prog 140 [sl cI ts,aStmt s,iv d] (fun r => r = bv (okS ts d.toNat s)) := by
 rw [okS_int ts d hd0]
 refine pc_start Tryz.func140 Tryz.ntmps140 ?_
 repeat' (first|(apply id_rw;(first|(apply rx_callE (k := 90);rfl;(apply ih <;> (first|omega|(have := cnt_th s;omega)));exact Pur.pf;rfl)|(apply rx_callE (k := 205);rfl;(apply l1Simple_c <;> (assumption));exact Pur.pf;rfl)))|refine stpb ?_|(refine stp2 ?_ ?_ <;> intro hc hq <;> try (exfalso;omega))|(refine stp3 ?_ ?_ <;> intro hg hq <;> try (exfalso;omega))|refine stpr ?_|fail)
 all_goals (refine ⟨?_,rfl⟩; simp only [oneOf,AV.v.injEq,Value.bool.injEq,Value.int.injEq,true_and])
 all_goals (cases hth : s.th <;> cases hel : s.el <;> simp only [hth,hel,List.length_nil,List.length_cons,List.isEmpty_nil,List.isEmpty_cons,Bool.true_and,Bool.false_and] at *)
 all_goals grind
theorem l1Body_c0 (ts:List Int) (hl:typesOk ts = true) (m:Nat) (ih:∀ s (d:Int),cntS s ≤ m → 0 ≤ d → d ≤ 1000 → PC Tryz.prog 140 [sl cI ts,aStmt s,iv d] (fun r => r = bv (okS ts d.toNat s))) (l:List AL.Stmt) (d:Int) (hs:cntL l ≤ m) (hm:m ≤ 100000000) (hd0:0 ≤ d) (hd:d ≤ 1000) :
  PC Tryz.prog 90 [sl cI ts,sl cStmt l,iv d] (fun r => r = bv (okL ts d.toNat l)) := by
 have hlen := cntL_len l
 refine pc_start Tryz.func90 Tryz.ntmps90 ?_
 repeat' (first|refine stpb ?_|fail)
 refine aw_loopA (σ := Nat) [0,1,2] [] (fun k => [(7,iv (k : Int))]) (fun k => []) (fun k => k ≤ l.length ∧ ∀ i,i < k → okS ts d.toNat l[i]! = true) (fun k => l.length - k) (0) ⟨by omega,by omega⟩ ?_
 intro k ⟨hk,hall⟩
 have hck := cntL_at l k
 repeat' (first|(apply id_rw;(apply rx_callE (k := 140);rfl;(apply ih _ d (Nat.le_trans (hck (by omega)) hs) hd0 hd);exact Pur.pf;rfl))|refine stpb ?_|(refine stp2 ?_ ?_ <;> intro hc hq <;> try (exfalso;omega))|refine stpr ?_|fail)
 ·(refine ⟨?_, rfl⟩; simp only [oneOf, AV.v.injEq, Value.bool.injEq, Value.int.injEq, true_and])
  rw [okL_take (k := k) (by omega) hq]
 ·(refine ex3 (k + 1) (Le.renA []) ?_ ?_)
  ·grind
  ·omega
 ·(refine ⟨?_, rfl⟩; simp only [oneOf, AV.v.injEq, Value.bool.injEq, Value.int.injEq, true_and])
  rw [okL_all (fun i hi => hall i (by omega))]
theorem l1_both (ts:List Int) (hl:typesOk ts = true):∀ (m:Nat),m ≤ 100000000 → (∀ s (d:Int),cntS s ≤ m → 0 ≤ d → d ≤ 1000 → PC Tryz.prog 140 [sl cI ts,aStmt s,iv d] (fun r => r = bv (okS ts d.toNat s))) ∧
  (∀ l (d : Int),cntL l ≤ m → 0 ≤ d → d ≤ 1000 → PC Tryz.prog 90 [sl cI ts,sl cStmt l,iv d] (fun r => r = bv (okL ts d.toNat l))) := by
 intro m
 induction m using Nat.strongRecOn with
 | ind m ih =>
  intro hm
  have h1 : ∀ s (d : Int), cntS s ≤ m → 0 ≤ d → d ≤ 1000 → PC Tryz.prog 140 [sl cI ts, aStmt s, iv d] (fun r => r = bv (okS ts d.toNat s)) :=
   fun s d h1 h2 h3 => l1Stmt_c0 ts hl m (fun l d' g1 g2 g3 => (ih (cntL l) g1 (by omega)).2 l d' (Nat.le_refl _) g2 g3) s d h1 h2 h3
  exact ⟨h1,fun l d g1 g2 g3 => l1Body_c0 ts hl m h1 l d g1 hm g2 g3⟩
theorem l1Count_c0 (m0:Nat) (ih:∀ l (most:Int),cntL l < m0 → -1 ≤ most → most ≤ 1000 → PC Tryz.prog 91 [sl cStmt l,iv most] (fun r => r = iv (lcL most 0 l))) (l:List AL.Stmt) (most:Int) (hs:cntL l ≤ m0) (hm:m0 ≤ 100000000) (hd0:-1 ≤ most) (hd:most ≤ 1000) :
  PC Tryz.prog 91 [sl cStmt l,iv most] (fun r => r = iv (lcL most 0 l)) := by
 have hlen := cntL_len l
 have hall := lcL_bd l most 0
 refine pc_start Tryz.func91 Tryz.ntmps91 ?_
 repeat' (first|refine stpb ?_|fail)
 refine aw_loopA (σ := Nat × Int) [0,1] [] (fun k => [(6,iv (k.1 : Int)),(5,iv k.2)]) (fun k => []) (fun k => k.1 ≤ l.length ∧ lcL most k.2 (l.drop k.1) = lcL most 0 l ∧ 0 ≤ k.2 ∧ k.2 ≤ cntL l) (fun k => l.length - k.1) (0,0) ⟨by omega,rfl,by omega,by omega⟩ ?_
 rintro ⟨k,n⟩ ⟨hk,hn,hn0,hn1⟩
 dsimp only at hk hn hn0 hn1 ⊢
 have hck := cntL_at l k
 have hct := cnt_th l[k]!
 have b1 := lcL_bd l[k]!.th (most - n) 0
 have b2 := fun z => lcL_bd l[k]!.el z 0
 have b3 := lcS_bd l[k]! most n
 have b4 := lcL_bd (l.drop (k + 1)) most (lcS most n l[k]!)
 have b5 := lcL_drop most n l k
 rw [lcS_def] at b3 b4 b5
 repeat' (first|(apply id_rw;(apply rx_callE (k := 91);rfl;(apply ih <;> omega);exact Pur.pf;rfl))|refine stpb ?_|(refine stp2 ?_ ?_ <;> intro hc hq <;> try (exfalso;omega))|(refine stp3 ?_ ?_ <;> intro hg hq <;> try (exfalso;omega))|refine stpr ?_|fail)
 ·(refine ex3 (k + 1, n + 1 + lcL (most - n) 0 l[k]!.th + lcL (most - (n + 1 + lcL (most - n) 0 l[k]!.th)) 0 l[k]!.el) (Le.renA []) ?_ ?_)
  ·dsimp only;grind
  ·dsimp only;omega
 ·(refine ex3 (k + 1, n + 1 + lcL (most - n) 0 l[k]!.th) (Le.renA []) ?_ ?_)
  ·dsimp only;grind
  ·dsimp only;omega
 ·(refine ⟨?_, rfl⟩; simp only [oneOf, AV.v.injEq, Value.bool.injEq, Value.int.injEq, true_and])
  rw [← hn,lcL_stop _ _ _ (by omega)]
 ·(refine ⟨?_, rfl⟩; simp only [oneOf, AV.v.injEq, Value.bool.injEq, Value.int.injEq, true_and])
  rw [← hn,lcL_end _ _ _ _ (by omega)]
theorem l1Count_c (l:List AL.Stmt) (most:Int) (hs:cntL l ≤ 100000000) (hd0:-1 ≤ most) (hd:most ≤ 1000) :
  PC Tryz.prog 91 [sl cStmt l,iv most] (fun r => r = iv (lcL most 0 l)) := by
 have h : ∀ (m : Nat), m ≤ 100000000 → ∀ l (most : Int), cntL l ≤ m → -1 ≤ most → most ≤ 1000 → PC Tryz.prog 91 [sl cStmt l, iv most] (fun r => r = iv (lcL most 0 l)) := by
  intro m
  induction m using Nat.strongRecOn with
  | ind m ih =>
   intro hm l most h1 h2 h3
   exact l1Count_c0 m (fun l' most' g1 g2 g3 => ih _ g1 (by omega) l' most' (Nat.le_refl _) g2 g3) l most h1 hm h2 h3
 exact h _ hs l most (Nat.le_refl _) hd0 hd
theorem l1Body_c (ts:List Int) (l:List AL.Stmt) (d:Int) (hl:typesOk ts = true) (hs:cntL l ≤ 100000000) (hd0:0 ≤ d) (hd:d ≤ 1000):PC Tryz.prog 90 [sl cI ts,sl cStmt l,iv d] (fun r => r = bv (okL ts d.toNat l)) :=
 (l1_both ts hl _ hs).2 l d (Nat.le_refl _) hd0 hd
theorem l1Types_c (ts:List Int) (hl:ts.length ≤ 1048576):PC Tryz.prog 89 [sl cI ts] (fun r => r = bv (typesOk ts)):=by
 refine pc_start Tryz.func89 Tryz.ntmps89 ?_
 repeat' (first|refine stpb ?_|fail)
 refine aw_loopA (σ := Nat) [0] [] (fun k => [(3,iv (k : Int))]) (fun k => []) (fun k => k ≤ ts.length ∧ ∀ i,i < k → 1 ≤ ts[i]! ∧ ts[i]! ≤ 4) (fun k => ts.length - k) (0) ⟨by omega,by omega⟩ ?_
 intro k ⟨hk,hall⟩
 repeat' (first|refine stpb ?_|(refine stp2 ?_ ?_ <;> intro hc hq <;> try (exfalso;omega))|(refine stp3 ?_ ?_ <;> intro hg hq <;> try (exfalso;omega))|refine stpr ?_|fail)
 ·(refine ⟨?_, rfl⟩; simp only [oneOf, AV.v.injEq, Value.bool.injEq, Value.int.injEq, true_and])
  unfold typesOk;grind [all_false,all_iff]
 ·(refine ex3 (k + 1) (Le.renA []) ?_ ?_)
  ·grind
  ·omega
 ·(refine ⟨?_, rfl⟩; simp only [oneOf, AV.v.injEq, Value.bool.injEq, Value.int.injEq, true_and])
  unfold typesOk;grind [all_false,all_iff]
 ·(refine ⟨?_, rfl⟩; simp only [oneOf, AV.v.injEq, Value.bool.injEq, Value.int.injEq, true_and])
  unfold typesOk;grind [all_false,all_iff]
theorem validS_c (p:Prg) (hl:p.types.length ≤ 1048576) (hs:cntL p.body ≤ 100000000):PC Tryz.prog 50 [aPrg p] (fun r => r = bv (validF p)):=by
 unfold validF
 cases ht : typesOk p.types
 ·refine pc_start Tryz.func50 Tryz.ntmps50 ?_
  repeat' (first|(apply id_rw;(apply rx_callE (k := 89);rfl;(apply l1Types_c <;> (assumption));exact Pur.pf;rfl))|refine stpb ?_|refine stpr ?_|fail)
  (refine ⟨?_,rfl⟩; simp only [oneOf,AV.v.injEq,Value.bool.injEq,Value.int.injEq,true_and])
  rfl
 ·refine pc_start Tryz.func50 Tryz.ntmps50 ?_
  repeat' (first|(apply id_rw;(first|(apply rx_callE (k := 89);rfl;(apply l1Types_c <;> (assumption));exact Pur.pf;rfl)|(apply rx_callE (k := 90);rfl;(apply l1Body_c <;> (first|assumption|omega));exact Pur.pf;rfl)|(apply rx_callE (k := 91);rfl;(apply l1Count_c <;> (first|assumption|omega));exact Pur.pf;rfl)))|refine stpb ?_|(refine stp3 ?_ ?_ <;> intro hg hq <;> try (exfalso;omega))|refine stpr ?_|fail)
  ·(refine ⟨?_, rfl⟩; simp only [oneOf, AV.v.injEq, Value.bool.injEq, Value.int.injEq, true_and])
   rw [show okL p.types 4 p.body = true from hq]; simp only [Bool.true_and,lcL_le,decide_eq_decide]; omega
  ·(refine ⟨?_, rfl⟩; simp only [oneOf, AV.v.injEq, Value.bool.injEq, Value.int.injEq, true_and])
   rw [show okL p.types 4 p.body = false from hq]; rfl
end Go.Proofs.YtjnhlgpbojggnaaGreatDoor
namespace Go.Proofs.YtjnhlgpbojggnaaGreatDoor
open Go.AL Go.RowKit
variable {N : Nat} {Q : Exit → AS → Prop} {all : Array Oper} {rest : List Oper} {tsl : List (Nat × AV)} {hsl : List (Nat × Option (List AV))} {nidl : Nat} {z0 : Lo} {md : Md} {d : Nat} {ty : TypeId} {pos : String} {af : Array Edge} {tys : Array TypeId}
theorem rx_scan {ts:List Int}{s:AL.Stmt}{nest c:Int}{x0 x1 x2 x3:Operand}{i0:Nat}(ha0:ev (lk tsl) x0 = some (sl cI ts)) (ha1:ev (lk tsl) x1 = some (aStmt s)) (ha2:ev (lk tsl) x2 = some (iv nest)) (ha3:ev (lk tsl) x3 = some (.optr i0 0)) (hH0:lkH hsl i0 = some ([iv c])) (hmc:MC Tryz.prog 95 [sl cI ts,aStmt s,iv nest,.optr 0 0] [(0,some ([iv c]))] 1 (fun _:Unit => True) (fun _ => bv (scS ts nest c s).1) (fun _ => [(0,some ([iv (scS ts nest c s).2]))])) (hM:Nat.ble (nidl + 0) big = true) (hN:Nat.blt d N = true){md':Md}[hmd:MdA md (rOs [x0,x1,x2,x3] ++ [.inr i0]) (List.map Sum.inr (List.map Prod.fst ([(i0,some ([iv (scS ts nest c s).2]))]:List (Nat × Option (List AV)))) ++ [.inl d]) md'] (kk:RW Tryz.prog N all Q md' rest ⟨(d,bv (scS ts nest c s).1) :: tsl,wrH hsl [(i0,some ([iv (scS ts nest c s).2]))],nidl + 0,z0⟩):RW Tryz.prog N all Q md (⟨some d,.call ⟨.value (.func 95),#[x0,x1,x2,x3],tys⟩,ty,pos,af,none⟩ :: rest) ⟨tsl,hsl,nidl,z0⟩:=by
 exact rx_mcallA (l := [x0,x1,x2,x3]) [i0] 1 [(i0,some ([iv (scS ts nest c s).2]))] hmc (avs := [sl cI ts,aStmt s,iv nest,.optr i0 0]) (by simp only [evL,ha0,ha1,ha2,ha3]) rfl hM hN (md' := md') (hmd := hmd) kk
theorem rx_scanAll {ts:List Int}{l:List AL.Stmt}{nest c:Int}{x0 x1 x2 x3:Operand}{i0:Nat}(ha0:ev (lk tsl) x0 = some (sl cI ts)) (ha1:ev (lk tsl) x1 = some (sl cStmt l)) (ha2:ev (lk tsl) x2 = some (iv nest)) (ha3:ev (lk tsl) x3 = some (.optr i0 0)) (hH0:lkH hsl i0 = some ([iv c])) (hmc:MC Tryz.prog 53 [sl cI ts,sl cStmt l,iv nest,.optr 0 0] [(0,some ([iv c]))] 1 (fun _:Unit => True) (fun _ => bv (scL ts nest c l).1) (fun _ => [(0,some ([iv (scL ts nest c l).2]))])) (hM:Nat.ble (nidl + 0) big = true) (hN:Nat.blt d N = true){md':Md}[hmd:MdA md (rOs [x0,x1,x2,x3] ++ [.inr i0]) (List.map Sum.inr (List.map Prod.fst ([(i0,some ([iv (scL ts nest c l).2]))]:List (Nat × Option (List AV)))) ++ [.inl d]) md'] (kk:RW Tryz.prog N all Q md' rest ⟨(d,bv (scL ts nest c l).1) :: tsl,wrH hsl [(i0,some ([iv (scL ts nest c l).2]))],nidl + 0,z0⟩):RW Tryz.prog N all Q md (⟨some d,.call ⟨.value (.func 53),#[x0,x1,x2,x3],tys⟩,ty,pos,af,none⟩ :: rest) ⟨tsl,hsl,nidl,z0⟩:=by
 exact rx_mcallA (l := [x0,x1,x2,x3]) [i0] 1 [(i0,some ([iv (scL ts nest c l).2]))] hmc (avs := [sl cI ts,sl cStmt l,iv nest,.optr i0 0]) (by simp only [evL,ha0,ha1,ha2,ha3]) rfl hM hN (md' := md') (hmd := hmd) kk
theorem scan_c0 (ts:List Int) (htO:typesOk ts = true) (m:Nat) (scanAll_ih:∀ l nest c,cntL l < m → 0 ≤ nest → nest ≤ 4 → 0 ≤ c → c ≤ 30 → MC Tryz.prog 53 [sl cI ts,sl cStmt l,iv nest,.optr 0 0] [(0,some ([iv c]))] 1 (fun _:Unit => True) (fun _ => bv (scL ts nest c l).1) (fun _ => [(0,some ([iv (scL ts nest c l).2]))])) (s:AL.Stmt) (nest c:Int) (hs:cntS s ≤ m) (hn0:0 ≤ nest) (hn:nest ≤ 4) (hc0:0 ≤ c) (hc:c ≤ 30):MC Tryz.prog 95 [sl cI ts,aStmt s,iv nest,.optr 0 0] [(0,some ([iv c]))] 1 (fun _:Unit => True) (fun _ => bv (scS ts nest c s).1) (fun _ => [(0,some ([iv (scS ts nest c s).2]))]):=by
 have ct := cnt_th s
 have hb1 := scL_bd ts s.th (nest + 1) (c + 1)
 refine mc_start Tryz.func95 Tryz.ntmps95 ?_
 repeat' (first|(apply id_rw;(first|(apply rx_scanAll;rfl;rfl;rfl;rfl;(rfl);(apply scanAll_ih <;> (first|assumption|omega|grind));rfl;rfl)|(apply rx_callE (k := 143);rfl;(apply isBranch_c);(rfl);rfl)|(apply rx_callE (k := 144);rfl;(apply simpleOk_c <;> (assumption));exact Pur.pf;rfl)))|refine stpb ?_|(refine stp2 ?_ ?_ <;> intro hc hq <;> try (exfalso;omega))|(refine stp3 ?_ ?_ <;> intro hg hq <;> try (exfalso;omega))|fail)
 all_goals (refine rq_ret rfl ?_; refine mc_ret () trivial ?_ ⟨sE ?_,trivial⟩)
 all_goals (try simp only [oneOf,AV.v.injEq,Value.bool.injEq,Value.int.injEq,true_and,spl,List.take,List.drop,List.length,List.append,List.nil_append,List.append_nil,Option.some.injEq,List.cons.injEq,and_true])
 all_goals rw [scS_def]
 all_goals clear scanAll_ih
 all_goals (cases hel : s.el <;> simp only [hel,List.length_nil,List.length_cons] at * <;> grind)
theorem scanAll_c0 (ts:List Int) (m:Nat) (hm:m ≤ 100000000) (scan_ih:∀ s nest c,cntS s ≤ m → 0 ≤ nest → nest ≤ 4 → 0 ≤ c → c ≤ 30 → MC Tryz.prog 95 [sl cI ts,aStmt s,iv nest,.optr 0 0] [(0,some ([iv c]))] 1 (fun _:Unit => True) (fun _ => bv (scS ts nest c s).1) (fun _ => [(0,some ([iv (scS ts nest c s).2]))])) (l:List AL.Stmt) (nest c:Int) (hs:cntL l ≤ m) (hn0:0 ≤ nest) (hn:nest ≤ 4) (hc0:0 ≤ c) (hc:c ≤ 30):MC Tryz.prog 53 [sl cI ts,sl cStmt l,iv nest,.optr 0 0] [(0,some ([iv c]))] 1 (fun _:Unit => True) (fun _ => bv (scL ts nest c l).1) (fun _ => [(0,some ([iv (scL ts nest c l).2]))]):=by
 have hlen := cntL_len l
 refine mc_start Tryz.func53 Tryz.ntmps53 ?_
 repeat' (first|refine stpb ?_|fail)
 refine aw_loopA (σ := Nat × Int) [0,2,3,11,12] [] (fun k => [(13,iv (k.1 : Int))]) (fun k => [(0,some [iv k.2])]) (fun k => k.1 ≤ l.length ∧ scL ts nest k.2 (l.drop k.1) = scL ts nest c l ∧ 0 ≤ k.2 ∧ k.2 ≤ 30) (fun k => l.length - k.1) (0,c) ⟨by omega,rfl,by omega,by omega⟩ ?_
 rintro ⟨k,c'⟩ ⟨hk,hn,hn0,hn1⟩
 dsimp only at hk hn hn0 hn1 ⊢
 have hck := cntL_at l k
 have hb1 := scS_bd ts l[k]! nest c'
 have hst := @scL_stop ts nest c' l k
 repeat' (first|(apply id_rw;(apply rx_scan;rfl;rfl;rfl;rfl;(rfl);(apply scan_ih <;> (first|assumption|omega));rfl;rfl))|refine stpb ?_|(refine stp2 ?_ ?_ <;> intro hc hq <;> try (exfalso;omega))|fail)
 ·(refine rq_ret rfl ?_; refine mc_ret () trivial ?_ ⟨sE ?_, trivial⟩)
  all_goals (try simp only [oneOf,AV.v.injEq,Value.bool.injEq,Value.int.injEq,true_and,spl,List.take,List.drop,List.length,List.append,List.nil_append,List.append_nil,Option.some.injEq,List.cons.injEq,and_true])
  all_goals (rw [← hn,hst (by omega)]; grind)
 ·(refine ex3 (k + 1, (scS ts nest c' l[k]!).2) (Le.renA []) ?_ ?_)
  ·dsimp only;grind
  ·dsimp only;omega
 ·(refine rq_ret rfl ?_; refine mc_ret () trivial ?_ ⟨sE ?_, trivial⟩)
  all_goals (try simp only [oneOf,AV.v.injEq,Value.bool.injEq,Value.int.injEq,true_and,spl,List.take,List.drop,List.length,List.append,List.nil_append,List.append_nil,Option.some.injEq,List.cons.injEq,and_true])
  all_goals (rw [← hn,List.drop_of_length_le (by omega),scL])
theorem scan_both (ts:List Int) (hl:typesOk ts = true):∀ (m:Nat),m ≤ 100000000 → (∀ s (nest c:Int),cntS s ≤ m → 0 ≤ nest → nest ≤ 4 → 0 ≤ c → c ≤ 30 → MC Tryz.prog 95 [sl cI ts,aStmt s,iv nest,.optr 0 0] [(0,some ([iv c]))] 1 (fun _:Unit => True) (fun _ => bv (scS ts nest c s).1) (fun _ => [(0,some ([iv (scS ts nest c s).2]))])) ∧
  (∀ l (nest c : Int),cntL l ≤ m → 0 ≤ nest → nest ≤ 4 → 0 ≤ c → c ≤ 30 → MC Tryz.prog 53 [sl cI ts,sl cStmt l,iv nest,.optr 0 0] [(0,some ([iv c]))] 1 (fun _ : Unit => True) (fun _ => bv (scL ts nest c l).1) (fun _ => [(0,some ([iv (scL ts nest c l).2]))])) := by
 intro m
 induction m using Nat.strongRecOn with
 | ind m ih =>
  intro hm
  have h1 : ∀ s (nest c : Int), cntS s ≤ m → 0 ≤ nest → nest ≤ 4 → 0 ≤ c → c ≤ 30 → MC Tryz.prog 95 [sl cI ts, aStmt s, iv nest, .optr 0 0] [(0, some ([iv c]))] 1 (fun _ : Unit => True) (fun _ => bv (scS ts nest c s).1) (fun _ => [(0, some ([iv (scS ts nest c s).2]))]) :=
   fun s nest c h1 h2 h3 h4 h5 => scan_c0 ts hl m (fun l nest c g1 g2 g3 g4 g5 => (ih (cntL l) g1 (by omega)).2 l nest c (Nat.le_refl _) g2 g3 g4 g5) s nest c h1 h2 h3 h4 h5
  exact ⟨h1,fun l nest c g1 g2 g3 g4 g5 => scanAll_c0 ts m hm h1 l nest c g1 g2 g3 g4 g5⟩
theorem scanAll_c (ts:List Int) (l:List AL.Stmt) (nest c:Int) (hl:typesOk ts = true) (hs:cntL l ≤ 100000000) (hn0:0 ≤ nest) (hn:nest ≤ 4) (hc0:0 ≤ c) (hc:c ≤ 30):MC Tryz.prog 53 [sl cI ts,sl cStmt l,iv nest,.optr 0 0] [(0,some ([iv c]))] 1 (fun _:Unit => True) (fun _ => bv (scL ts nest c l).1) (fun _ => [(0,some ([iv (scL ts nest c l).2]))]) :=
 (scan_both ts hl _ hs).2 l nest c (Nat.le_refl _) hn0 hn hc0 hc
theorem typesOk1_c (t:Int):PC Tryz.prog 94 [iv t] (fun r => r = bv (!(decide (1 ≤ t) && decide (t ≤ 4)))):=by
 refine pc_start Tryz.func94 Tryz.ntmps94 ?_
 repeat' (first|(apply id_rw;(apply rx_callE (k := 35);rfl;(apply within_c);(rfl);rfl))|refine stpb ?_|refine stpr ?_|fail)
 all_goals (refine ⟨?_,rfl⟩; simp only [oneOf,AV.v.injEq,Value.bool.injEq,Value.int.injEq,true_and])
def idxBad (ts : List Int) : Int := match ts.findIdx? (fun t => !(decide (1 ≤ t) && decide (t ≤ 4))) with | some i => i | none => -1
theorem idxBad_c (ts:List Int) (hl:ts.length ≤ 1048576):PC Tryz.prog 142 [sl cI ts,.v (.func (.func 94) #[] #[])] (fun r => r = iv (idxBad ts)):=by
 refine pc_start Tryz.func142 Tryz.ntmps142 ?_
 repeat' (first|refine stpb ?_|fail)
 refine aw_loopA (σ := Nat) [0,1,7] [] (fun k => [(8,iv (k : Int))]) (fun k => []) (fun k => k ≤ ts.length ∧ ∀ i,i < k → 1 ≤ ts[i]! ∧ ts[i]! ≤ 4) (fun k => ts.length - k) (0) ⟨by omega,by omega⟩ ?_
 intro k ⟨hk,hall⟩
 repeat' (first|(apply id_rw;(apply rx_callC;rfl;rfl;infer_instance;rfl;(apply typesOk1_c);(rfl);rfl))|refine stpb ?_|(refine stp2 ?_ ?_ <;> intro hc hq <;> try (exfalso;omega))|refine stpr ?_|fail)
 ·(refine ⟨?_, rfl⟩; simp only [oneOf, AV.v.injEq, Value.bool.injEq, Value.int.injEq, true_and])
  have hlt : k < ts.length := by omega
  have : ts.findIdx? (fun t => !(decide (1 ≤ t) && decide (t ≤ 4))) = some k := by
   rw [List.findIdx?_eq_some_iff_getElem]
   refine ⟨hlt,?_,fun j hj => ?_⟩
   ·rw [← getB ts k hlt]; grind
   ·have := hall j hj;rw [getB ts j (by omega)] at this;simp;omega
  simp only [idxBad,this]
 ·(refine ex3 (k + 1) (Le.renA []) ?_ ?_)
  ·grind
  ·omega
 ·(refine ⟨?_, rfl⟩; simp only [oneOf, AV.v.injEq, Value.bool.injEq, Value.int.injEq, true_and])
  have : ts.findIdx? (fun t => !(decide (1 ≤ t) && decide (t ≤ 4))) = none := by
   rw [List.findIdx?_eq_none_iff]
   intro x hx
   obtain ⟨i,hi,rfl⟩ := List.getElem_of_mem hx
   have := hall i (by omega);rw [getB ts i hi] at this;simp;omega
  simp only [idxBad,this]
theorem idxBad_ge (ts:List Int):decide (0 ≤ idxBad ts) = !(ts.all (fun t => decide (1 ≤ t) && decide (t ≤ 4))):=by
 unfold idxBad
 split
 ·rename_i i h
  obtain ⟨h1,h2,_⟩ := List.findIdx?_eq_some_iff_getElem.1 h
  have : ts.all (fun t => decide (1 ≤ t) && decide (t ≤ 4)) = false := by
   rw [List.all_eq_false]; exact ⟨ts[i],List.getElem_mem h1,by simp at h2 ⊢; omega⟩
  rw [this]; simp
 ·rename_i h
  rw [List.findIdx?_eq_none_iff] at h
  have : ts.all (fun t => decide (1 ≤ t) && decide (t ≤ 4)) = true := by
   rw [List.all_eq_true]; intro x hx;simpa using h x hx
  rw [this]; rfl
theorem contBad_c (ts:List Int) (hl:ts.length ≤ 1048576):PC Tryz.prog 93 [sl cI ts,.v (.func (.func 94) #[] #[])] (fun r => r = bv (!(ts.all (fun t => decide (1 ≤ t) && decide (t ≤ 4))))):=by
 refine pc_start Tryz.func93 Tryz.ntmps93 ?_
 repeat' (first|(apply id_rw;(apply rx_callE (k := 142);rfl;(apply idxBad_c <;> (assumption));exact Pur.pf;rfl))|refine stpb ?_|refine stpr ?_|fail)
 (refine ⟨?_,rfl⟩; simp only [oneOf,AV.v.injEq,Value.bool.injEq,Value.int.injEq,true_and])
 exact idxBad_ge ts
theorem typesOkI_c (ts:List Int) (hl:ts.length ≤ 1048576):PC Tryz.prog 52 [sl cI ts] (fun r => r = bv (typesOk ts)):=by
 refine pc_start Tryz.func52 Tryz.ntmps52 ?_
 repeat' (first|(apply id_rw;(apply rx_callE (k := 93);rfl;(apply contBad_c <;> (assumption));exact Pur.pf;rfl))|refine stpb ?_|(refine stp3 ?_ ?_ <;> intro hg hq <;> try (exfalso;omega))|refine stpr ?_|fail)
 all_goals (refine ⟨?_,rfl⟩; simp only [oneOf,AV.v.injEq,Value.bool.injEq,Value.int.injEq,true_and])
 all_goals (unfold typesOk;grind)
theorem validI_c (p:Prg) (hl:p.types.length ≤ 1048576) (hs:cntL p.body ≤ 100000000):PC Tryz.prog 17 [aPrg p] (fun r => r = bv (validF p)):=by
 rw [← scL_valid]
 cases ht : typesOk p.types
 ·refine pc_start Tryz.func17 Tryz.ntmps17 ?_
  repeat' (first|(apply id_rw;(apply rx_callE (k := 52);rfl;(apply typesOkI_c <;> (assumption));exact Pur.pf;rfl))|refine stpb ?_|refine stpr ?_|fail)
  all_goals (refine ⟨?_,rfl⟩; simp only [oneOf,AV.v.injEq,Value.bool.injEq,Value.int.injEq,true_and])
  all_goals grind
 ·refine pc_start Tryz.func17 Tryz.ntmps17 ?_
  repeat' (first|(apply id_rw;(first|(apply rx_callE (k := 52);rfl;(apply typesOkI_c <;> (assumption));exact Pur.pf;rfl)|(apply rx_scanAll;rfl;rfl;rfl;rfl;(rfl);(apply scanAll_c <;> (first|assumption|omega));rfl;rfl)))|refine stpb ?_|refine stpr ?_|fail)
  all_goals (refine ⟨?_,rfl⟩; simp only [oneOf,AV.v.injEq,Value.bool.injEq,Value.int.injEq,true_and])
  all_goals grind
theorem rx_pointsOf {l:List AL.Stmt}{pts:List Pnt}{m:Nat}{x0 x1:Operand}{i0:Nat}(ha0:ev (lk tsl) x0 = some (sl cStmt l)) (ha1:ev (lk tsl) x1 = some (.own i0 0 m 5)) (hH0:lkH hsl i0 = some (flat cPnt pts)) (hmc:MC Tryz.prog 101 [sl cStmt l,.own 0 0 m 5] [(0,some (flat cPnt pts))] 1 (fun _:Unit => True) (fun _ => .own 1 0 (m + npL l) 5) (fun _ => [(1,some (flat cPnt (pts ++ ptL pts.length l)))])) (hM:Nat.ble (nidl + 1) big = true) (hN:Nat.blt d N = true){md':Md}[hmd:MdA md (rOs [x0,x1] ++ [.inr i0]) (List.map Sum.inr (List.map Prod.fst ([(nidl,some (flat cPnt (pts ++ ptL pts.length l))),(i0,none)]:List (Nat × Option (List AV)))) ++ [.inl d]) md'] (kk:RW Tryz.prog N all Q md' rest ⟨(d,.own nidl 0 (m + npL l) 5) :: tsl,wrH hsl [(nidl,some (flat cPnt (pts ++ ptL pts.length l))),(i0,none)],nidl + 1,z0⟩):RW Tryz.prog N all Q md (⟨some d,.call ⟨.value (.func 101),#[x0,x1],tys⟩,ty,pos,af,none⟩ :: rest) ⟨tsl,hsl,nidl,z0⟩:=by
 exact rx_mcallA (l := [x0,x1]) [i0] 2 [(nidl,some (flat cPnt (pts ++ ptL pts.length l))),(i0,none)] hmc (avs := [sl cStmt l,.own i0 0 m 5]) (by simp only [evL,ha0,ha1]) rfl hM hN (md' := md') (hmd := hmd) kk
theorem pointsOf_c0 (mm:Nat) (hmm:mm ≤ 1048576) (pointsOf_ih:∀ l pts m,cntL l < mm → m = pts.length → m + npL l ≤ 13000000 → MC Tryz.prog 101 [sl cStmt l,.own 0 0 m 5] [(0,some (flat cPnt pts))] 1 (fun _:Unit => True) (fun _ => .own 1 0 (m + npL l) 5) (fun _ => [(1,some (flat cPnt (pts ++ ptL pts.length l)))])) (l:List AL.Stmt) (pts:List Pnt) (m:Nat) (hs:cntL l ≤ mm) (hm:m = pts.length) (hb:m + npL l ≤ 13000000):MC Tryz.prog 101 [sl cStmt l,.own 0 0 m 5] [(0,some (flat cPnt pts))] 1 (fun _:Unit => True) (fun _ => .own 1 0 (m + npL l) 5) (fun _ => [(1,some (flat cPnt (pts ++ ptL pts.length l)))]):=by
 have hlen := cntL_len l
 subst hm
 refine mc_start Tryz.func101 Tryz.ntmps101 ?_
 repeat' (first|refine stpb ?_|fail)
 refine AW.le ?_ (Le.mv (d := 1) (i := 0) (cs := flat cPnt pts) rfl rfl (by decide))
 refine aw_loopA (σ := Nat × List Pnt × Nat) [9,10] [] (fun k => [(11,iv (k.1 : Int)),(1,.own 1 0 k.2.2 5)]) (fun k => [(1,some (flat cPnt k.2.1))]) (fun k => k.1 ≤ l.length ∧ k.2.1 = pts ++ ptL pts.length (l.take k.1) ∧ k.2.2 = k.2.1.length ∧ k.2.2 = pts.length + npL (l.take k.1)) (fun k => l.length - k.1) (0,pts,pts.length) ⟨by omega,by simp [ptL],rfl,by simp [npL]⟩ ?_
 rintro ⟨k,xs,m1⟩ ⟨hk,hxs,hm1,hm2⟩
 dsimp only at hk hxs hm1 hm2 ⊢
 have hck := cntL_at l k
 have hct := cnt_th l[k]!
 have hnt := npL_at l k
 have n9 := npS_9 l[k]!
 have n10 := npS_10 l[k]!
 have n1 := npS_1 l[k]!
 repeat' (first|(apply id_rw;first|(apply rx_buildSliceI (t := _);rfl;rfl;rfl;(first|exact (rfl:_=some [_])|exact (rfl:_=some [_,_])|exact (rfl:_=some [_,_,_,_,_]));rfl;rfl)|(apply rx_pointsOf;rfl;rfl;(rfl);(apply pointsOf_ih <;> (first|omega|(simp only [lns] <;> omega)));rfl;rfl))|refine stpb ?_|(refine stp2 ?_ ?_ <;> intro hc hq <;> try (exfalso;omega))|fail)
 ·(refine ex3 (k + 1, _, _) (Le.renA [(1, 8)]) ?_ ?_)
  ·dsimp only
   rw [if_get1 hm1,if_set1 hm1,if_get2 (by rw [ptL_len,hm1]),if_set2 (by rw [ptL_len,hm1]),ptL_take l _ k (by omega),npL_take l k (by omega),ptS_def,if_pos hq,n9 hq]
   refine ⟨by omega,?_,by simp [ptL_len]; omega,by omega⟩
   have e1 : xs.length = pts.length + npL (l.take k) := by omega
   rw [← List.append_assoc pts,← hxs,← e1]
   simp only [List.append_assoc,List.length_append,List.length_cons,List.length_nil,ptL_len,hm1,Nat.zero_add]
   clear pointsOf_ih hxs hck hnt n9 n10 n1
   grind
  ·dsimp only;omega
 ·(refine ex3 (k + 1, _, _) (Le.renA [(1, 8)]) ?_ ?_)
  ·dsimp only
   rw [lp_get hm1,lp_set hm1,ptL_take l _ k (by omega),npL_take l k (by omega),ptS_def,if_neg (by omega),if_pos hq,n10 hq]
   refine ⟨by omega,?_,by simp [ptL_len]; omega,by omega⟩
   have e1 : xs.length = pts.length + npL (l.take k) := by omega
   rw [← List.append_assoc pts,← hxs,← e1]
   simp only [List.append_assoc,List.length_append,List.length_cons,List.length_nil,ptL_len,hm1,Nat.zero_add]
   clear pointsOf_ih hxs hck hnt n9 n10 n1
   grind
  ·dsimp only;omega
 ·(refine ex3 (k + 1, _, _) (Le.renA [(1, 5)]) ?_ ?_)
  ·dsimp only
   rw [ptL_take l _ k (by omega),npL_take l k (by omega),ptS_def,if_neg ‹¬l[k]!.op = 9›,if_neg hq,n1 ‹¬l[k]!.op = 9› hq]
   refine ⟨by omega,?_,by simp [ptL_len]; omega,by omega⟩
   have e1 : xs.length = pts.length + npL (l.take k) := by omega
   rw [← List.append_assoc pts,← hxs,← e1,hm1]
  ·dsimp only;omega
 ·refine rq_ret rfl ?_
  have e2 : l.take k = l := List.take_of_length_le (by omega)
  rw [e2] at hxs hm2
  refine mc_ret () trivial ?_ ⟨sE ?_,trivial⟩
  ·simp only [oneOf]; rw [hm2]
  ·rw [hxs]
theorem pointsOf_c (l:List AL.Stmt) (pts:List Pnt) (m:Nat) (hs:cntL l ≤ 1048576) (hm:m = pts.length) (hb:m + npL l ≤ 13000000):MC Tryz.prog 101 [sl cStmt l,.own 0 0 m 5] [(0,some (flat cPnt pts))] 1 (fun _:Unit => True) (fun _ => .own 1 0 (m + npL l) 5) (fun _ => [(1,some (flat cPnt (pts ++ ptL pts.length l)))]):=by
 have h : ∀ (mm : Nat), mm ≤ 1048576 → ∀ l pts m, cntL l ≤ mm → m = pts.length → m + npL l ≤ 13000000 → MC Tryz.prog 101 [sl cStmt l, .own 0 0 m 5] [(0, some (flat cPnt pts))] 1 (fun _ : Unit => True) (fun _ => .own 1 0 (m + npL l) 5) (fun _ => [(1, some (flat cPnt (pts ++ ptL pts.length l)))]) := by
  intro mm
  induction mm using Nat.strongRecOn with
  | ind mm ih =>
   intro h0 l pts m h1 h2 h3
   exact pointsOf_c0 mm h0 (fun l' pts' m' g1 g2 g3 => ih _ g1 (by omega) l' pts' m' (Nat.le_refl _) g2 g3) l pts m h1 h2 h3
 exact h _ hs l pts m (Nat.le_refl _) hm hb
theorem rx_pointsOfN {l:List AL.Stmt}{x0 x1:Operand}(ha0:ev (lk tsl) x0 = some (sl cStmt l)) (ha1:ev (lk tsl) x1 = some (.v (.slice none 0 0))) (hmc:MC Tryz.prog 101 [sl cStmt l,.v (.slice none 0 0)] [] 0 (fun _:Unit => True) (fun _ => .own 0 0 (npL l) 5) (fun _ => [(0,some (flat cPnt (ptL 0 l)))])) (hM:Nat.ble (nidl + 1) big = true) (hN:Nat.blt d N = true){md':Md}[hmd:MdA md (rOs [x0,x1] ++ []) (List.map Sum.inr (List.map Prod.fst ([(nidl,some (flat cPnt (ptL 0 l)))]:List (Nat × Option (List AV)))) ++ [.inl d]) md'] (kk:RW Tryz.prog N all Q md' rest ⟨(d,.own nidl 0 (npL l) 5) :: tsl,wrH hsl [(nidl,some (flat cPnt (ptL 0 l)))],nidl + 1,z0⟩):RW Tryz.prog N all Q md (⟨some d,.call ⟨.value (.func 101),#[x0,x1],tys⟩,ty,pos,af,none⟩ :: rest) ⟨tsl,hsl,nidl,z0⟩:=by
 exact rx_mcallA (l := [x0,x1]) [] 1 [(nidl,some (flat cPnt (ptL 0 l)))] hmc (avs := [sl cStmt l,.v (.slice none 0 0)]) (by simp only [evL,ha0,ha1]) rfl hM hN (md' := md') (hmd := hmd) kk
theorem pointsOfN_c (l:List AL.Stmt) (hs:cntL l ≤ 1048576):MC Tryz.prog 101 [sl cStmt l,.v (.slice none 0 0)] [] 0 (fun _:Unit => True) (fun _ => .own 0 0 (npL l) 5) (fun _ => [(0,some (flat cPnt (ptL 0 l)))]):=by
 have hlen := cntL_len l
 have hn2 := npL_le l
 refine mc_start Tryz.func101 Tryz.ntmps101 ?_
 repeat' (first|refine stpb ?_|fail)
 refine AW.le ?_ (Le.nilOwn (d := 1) 5 rfl (by decide))
 refine aw_loopA (σ := Nat × List Pnt × Nat) [9,10] [] (fun k => [(11,iv (k.1 : Int)),(1,.own 0 0 k.2.2 5)]) (fun k => [(0,some (flat cPnt k.2.1))]) (fun k => k.1 ≤ l.length ∧ k.2.1 = ptL 0 (l.take k.1) ∧ k.2.2 = k.2.1.length ∧ k.2.2 = npL (l.take k.1)) (fun k => l.length - k.1) (0,[],0) ⟨by omega,by simp [ptL],rfl,by simp [npL]⟩ ?_
 rintro ⟨k,xs,m1⟩ ⟨hk,hxs,hm1,hm2⟩
 dsimp only at hk hxs hm1 hm2 ⊢
 have hck := cntL_at l k
 have hct := cnt_th l[k]!
 have hnt := npL_at l k
 have n9 := npS_9 l[k]!
 have n10 := npS_10 l[k]!
 have n1 := npS_1 l[k]!
 repeat' (first|(apply id_rw;first|(apply rx_buildSliceI (t := _);rfl;rfl;rfl;(first|exact (rfl:_=some [_])|exact (rfl:_=some [_,_])|exact (rfl:_=some [_,_,_,_,_]));rfl;rfl)|(apply rx_pointsOf;rfl;rfl;(rfl);(apply pointsOf_c <;> (first|omega|(simp only [lns] <;> omega)));rfl;rfl))|refine stpb ?_|(refine stp2 ?_ ?_ <;> intro hc hq <;> try (exfalso;omega))|fail)
 ·(refine ex3 (k + 1, _, _) (Le.renA [(0, 7)]) ?_ ?_)
  ·dsimp only
   rw [if_get1 hm1,if_set1 hm1,if_get2 (by rw [ptL_len,hm1]),if_set2 (by rw [ptL_len,hm1]),ptL_take l _ k (by omega),npL_take l k (by omega),ptS_def,if_pos hq,n9 hq]
   refine ⟨by omega,?_,by simp [ptL_len]; omega,by omega⟩
   have e1 : npL (l.take k) = xs.length := by omega
   rw [Nat.zero_add,e1]
   rw [← hxs]
   simp only [List.append_assoc,List.length_append,List.length_cons,List.length_nil,ptL_len,hm1,Nat.zero_add]
   clear hxs hck hnt n9 n10 n1
   grind
  ·dsimp only;omega
 ·(refine ex3 (k + 1, _, _) (Le.renA [(0, 7)]) ?_ ?_)
  ·dsimp only
   rw [lp_get hm1,lp_set hm1,ptL_take l _ k (by omega),npL_take l k (by omega),ptS_def,if_neg (by omega),if_pos hq,n10 hq]
   refine ⟨by omega,?_,by simp [ptL_len]; omega,by omega⟩
   have e1 : npL (l.take k) = xs.length := by omega
   rw [Nat.zero_add,e1]
   rw [← hxs]
   simp only [List.append_assoc,List.length_append,List.length_cons,List.length_nil,ptL_len,hm1,Nat.zero_add]
   clear hxs hck hnt n9 n10 n1
   grind
  ·dsimp only;omega
 ·(refine ex3 (k + 1, _, _) (Le.renA [(0, 4)]) ?_ ?_)
  ·dsimp only
   rw [ptL_take l _ k (by omega),npL_take l k (by omega),ptS_def,if_neg ‹¬l[k]!.op = 9›,if_neg hq,n1 ‹¬l[k]!.op = 9› hq]
   refine ⟨by omega,?_,by simp [ptL_len]; omega,by omega⟩
   have e1 : npL (l.take k) = xs.length := by omega
   rw [Nat.zero_add,e1]
   rw [← hxs,hm1]
  ·dsimp only;omega
 ·refine rq_ret rfl ?_
  have e2 : l.take k = l := List.take_of_length_le (by omega)
  rw [e2] at hxs hm2
  refine mc_ret () trivial ?_ ⟨sE ?_,trivial⟩
  ·simp only [oneOf]; rw [hm2]
  ·rw [hxs]
theorem points_c (p:Prg) (hs:cntL p.body ≤ 1048576):PC Tryz.prog 60 [aPrg p] (fun r => r = sl cPnt (ptsF p)):=by
 have hn := npL_le p.body
 refine pc_start Tryz.func60 Tryz.ntmps60 ?_
 repeat' (first|(apply id_rw;first|(apply rx_buildSliceI (t := _);rfl;rfl;rfl;(exact (rfl:_=some [_,_,_,_,_]));rfl;rfl)|(apply rx_pointsOfN;rfl;rfl;(apply pointsOfN_c <;> (assumption));rfl;rfl))|refine stpb ?_|fail)
 (refine rq_le (Le.frzD (d := 2) (i := 3) rfl rfl) ?_; refine rq_ret rfl ?_)
 refine ⟨?_,?_⟩
 ·simp only [oneOf,sl,ptsF,List.length_append,List.length_cons,List.length_nil,ptL_len,Nat.zero_add]
 ·(exact pur_sl _ _)
theorem PointsOfI_c (p:Prg) (hl:p.types.length ≤ 1048576) (hs:cntL p.body ≤ 1048576):PC Tryz.prog 22 [aPrg p] (fun r => r = sl cPnt (if validF p = true then ptsF p else [])):=by
 refine pc_start Tryz.func22 Tryz.ntmps22 ?_
 repeat' (first|(apply id_rw;(first|(apply rx_callE (k := 17);rfl;(apply validI_c <;> (first|assumption|omega));exact Pur.pf;rfl)|(apply rx_callE (k := 60);rfl;(apply points_c <;> (assumption));exact Pur.pf;rfl)))|refine stpb ?_|(refine stp2 ?_ ?_ <;> intro hc hq <;> try (exfalso;omega))|fail)
 ·(refine rq_le (Le.nilImm (d := 2) rfl) ?_; refine rq_ret rfl ?_)
  refine ⟨?_,(by (rfl))⟩
  simp only [hq,oneOf,Bool.false_eq_true,if_false]; rfl
 ·refine rq_ret rfl ⟨?_, (by (exact pur_sl _ _))⟩
  simp only [hq,oneOf,if_true]
theorem rx_l2Add {l:List AL.Stmt}{pts:List Pnt}{m:Nat}{x0 x1:Operand}{i0:Nat}(ha0:ev (lk tsl) x0 = some (.own i0 0 m 5)) (ha1:ev (lk tsl) x1 = some (sl cStmt l)) (hH0:lkH hsl i0 = some (flat cPnt pts)) (hmc:MC Tryz.prog 102 [.own 0 0 m 5,sl cStmt l] [(0,some (flat cPnt pts))] 1 (fun _:Unit => True) (fun _ => .own 1 0 (m + npL l) 5) (fun _ => [(1,some (flat cPnt (pts ++ ptL pts.length l)))])) (hM:Nat.ble (nidl + 1) big = true) (hN:Nat.blt d N = true){md':Md}[hmd:MdA md (rOs [x0,x1] ++ [.inr i0]) (List.map Sum.inr (List.map Prod.fst ([(nidl,some (flat cPnt (pts ++ ptL pts.length l))),(i0,none)]:List (Nat × Option (List AV)))) ++ [.inl d]) md'] (kk:RW Tryz.prog N all Q md' rest ⟨(d,.own nidl 0 (m + npL l) 5) :: tsl,wrH hsl [(nidl,some (flat cPnt (pts ++ ptL pts.length l))),(i0,none)],nidl + 1,z0⟩):RW Tryz.prog N all Q md (⟨some d,.call ⟨.value (.func 102),#[x0,x1],tys⟩,ty,pos,af,none⟩ :: rest) ⟨tsl,hsl,nidl,z0⟩:=by
 exact rx_mcallA (l := [x0,x1]) [i0] 2 [(nidl,some (flat cPnt (pts ++ ptL pts.length l))),(i0,none)] hmc (avs := [.own i0 0 m 5,sl cStmt l]) (by simp only [evL,ha0,ha1]) rfl hM hN (md' := md') (hmd := hmd) kk
theorem l2Add_c0 (mm:Nat) (hmm:mm ≤ 1048576) (l2Add_ih:∀ l pts m,cntL l < mm → m = pts.length → m + npL l ≤ 13000000 → MC Tryz.prog 102 [.own 0 0 m 5,sl cStmt l] [(0,some (flat cPnt pts))] 1 (fun _:Unit => True) (fun _ => .own 1 0 (m + npL l) 5) (fun _ => [(1,some (flat cPnt (pts ++ ptL pts.length l)))])) (l:List AL.Stmt) (pts:List Pnt) (m:Nat) (hs:cntL l ≤ mm) (hm:m = pts.length) (hb:m + npL l ≤ 13000000):MC Tryz.prog 102 [.own 0 0 m 5,sl cStmt l] [(0,some (flat cPnt pts))] 1 (fun _:Unit => True) (fun _ => .own 1 0 (m + npL l) 5) (fun _ => [(1,some (flat cPnt (pts ++ ptL pts.length l)))]):=by
 have hlen := cntL_len l
 subst hm
 refine mc_start Tryz.func102 Tryz.ntmps102 ?_
 repeat' (first|refine stpb ?_|fail)
 refine AW.le ?_ (Le.mv (d := 0) (i := 0) (cs := flat cPnt pts) rfl rfl (by decide))
 refine aw_loopA (σ := Nat × List Pnt × Nat) [1] [] (fun k => [(5,iv (k.1 : Int)),(0,.own 1 0 k.2.2 5)]) (fun k => [(1,some (flat cPnt k.2.1))]) (fun k => k.1 ≤ l.length ∧ k.2.1 = pts ++ ptL pts.length (l.take k.1) ∧ k.2.2 = k.2.1.length ∧ k.2.2 = pts.length + npL (l.take k.1)) (fun k => l.length - k.1) (0,pts,pts.length) ⟨by omega,by simp [ptL],rfl,by simp [npL]⟩ ?_
 rintro ⟨k,xs,m1⟩ ⟨hk,hxs,hm1,hm2⟩
 dsimp only at hk hxs hm1 hm2 ⊢
 have hck := cntL_at l k
 have hct := cnt_th l[k]!
 have hnt := npL_at l k
 have n9 := npS_9 l[k]!
 have n10 := npS_10 l[k]!
 have n1 := npS_1 l[k]!
 repeat' (first|(apply id_rw;first|(apply rx_buildSliceI (t := _);rfl;rfl;rfl;(first|exact (rfl:_=some [_])|exact (rfl:_=some [_,_])|exact (rfl:_=some [_,_,_,_,_]));rfl;rfl)|(apply rx_l2Add;rfl;rfl;(rfl);(apply l2Add_ih <;> (first|omega|(simp only [lns] <;> omega)));rfl;rfl))|refine stpb ?_|(refine stp2 ?_ ?_ <;> intro hc hq <;> try (exfalso;omega))|fail)
 ·(refine ex3 (k + 1, _, _) (Le.renA [(1, 8)]) ?_ ?_)
  ·dsimp only
   rw [if_get2 (by rw [ptL_len,hm1]),if_set2 (by rw [ptL_len,hm1]),if_get1 hm1,if_set1 hm1,ptL_take l _ k (by omega),npL_take l k (by omega),ptS_def,if_pos hq,n9 hq]
   refine ⟨by omega,?_,by simp [ptL_len]; omega,by omega⟩
   have e1 : xs.length = pts.length + npL (l.take k) := by omega
   rw [← List.append_assoc pts,← hxs,← e1]
   simp only [List.append_assoc,List.length_append,List.length_cons,List.length_nil,ptL_len,hm1,Nat.zero_add]
   clear l2Add_ih hxs hck hnt n9 n10 n1
   grind
  ·dsimp only;omega
 ·(refine ex3 (k + 1, _, _) (Le.renA [(1, 8)]) ?_ ?_)
  ·dsimp only
   rw [lp_get hm1,lp_set hm1,ptL_take l _ k (by omega),npL_take l k (by omega),ptS_def,if_neg (by omega),if_pos hq,n10 hq]
   refine ⟨by omega,?_,by simp [ptL_len]; omega,by omega⟩
   have e1 : xs.length = pts.length + npL (l.take k) := by omega
   rw [← List.append_assoc pts,← hxs,← e1]
   simp only [List.append_assoc,List.length_append,List.length_cons,List.length_nil,ptL_len,hm1,Nat.zero_add]
   clear l2Add_ih hxs hck hnt n9 n10 n1
   grind
  ·dsimp only;omega
 ·(refine ex3 (k + 1, _, _) (Le.renA [(1, 5)]) ?_ ?_)
  ·dsimp only
   rw [ptL_take l _ k (by omega),npL_take l k (by omega),ptS_def,if_neg ‹¬l[k]!.op = 9›,if_neg hq,n1 ‹¬l[k]!.op = 9› hq]
   refine ⟨by omega,?_,by simp [ptL_len]; omega,by omega⟩
   have e1 : xs.length = pts.length + npL (l.take k) := by omega
   rw [← List.append_assoc pts,← hxs,← e1,hm1]
  ·dsimp only;omega
 ·refine rq_ret rfl ?_
  have e2 : l.take k = l := List.take_of_length_le (by omega)
  rw [e2] at hxs hm2
  refine mc_ret () trivial ?_ ⟨sE ?_,trivial⟩
  ·simp only [oneOf]; rw [hm2]
  ·rw [hxs]
theorem l2Add_c (l:List AL.Stmt) (pts:List Pnt) (m:Nat) (hs:cntL l ≤ 1048576) (hm:m = pts.length) (hb:m + npL l ≤ 13000000):MC Tryz.prog 102 [.own 0 0 m 5,sl cStmt l] [(0,some (flat cPnt pts))] 1 (fun _:Unit => True) (fun _ => .own 1 0 (m + npL l) 5) (fun _ => [(1,some (flat cPnt (pts ++ ptL pts.length l)))]):=by
 have h : ∀ (mm : Nat), mm ≤ 1048576 → ∀ l pts m, cntL l ≤ mm → m = pts.length → m + npL l ≤ 13000000 → MC Tryz.prog 102 [.own 0 0 m 5, sl cStmt l] [(0, some (flat cPnt pts))] 1 (fun _ : Unit => True) (fun _ => .own 1 0 (m + npL l) 5) (fun _ => [(1, some (flat cPnt (pts ++ ptL pts.length l)))]) := by
  intro mm
  induction mm using Nat.strongRecOn with
  | ind mm ih =>
   intro h0 l pts m h1 h2 h3
   exact l2Add_c0 mm h0 (fun l' pts' m' g1 g2 g3 => ih _ g1 (by omega) l' pts' m' (Nat.le_refl _) g2 g3) l pts m h1 h2 h3
 exact h _ hs l pts m (Nat.le_refl _) hm hb
theorem l2Points_c (p:Prg) (hs:cntL p.body ≤ 1048576):PC Tryz.prog 62 [aPrg p] (fun r => r = sl cPnt (ptsF p)):=by
 have hn := npL_le p.body
 have e0 : ([] : List AV) = flat cPnt [] := rfl
 refine pc_start Tryz.func62 Tryz.ntmps62 ?_
 repeat' (first|(apply id_rw;(apply rx_l2Add;rfl;rfl;(exact flat_nilH rfl);(apply l2Add_c <;> (first|assumption|omega|(simp only [lns] <;> omega)));rfl;rfl))|refine stpb ?_|fail)
 (refine rq_le (Le.frzD (d := 2) (i := 4) rfl rfl) ?_; refine rq_ret rfl ?_)
 refine ⟨?_,(by (exact pur_sl _ _))⟩
 simp only [oneOf,sl,ptsF,List.length_append,List.length_cons,List.length_nil,ptL_len,Nat.zero_add,List.nil_append]
instance : BoT Tryz.prog 4:=⟨by kernel_rfl⟩
abbrev cRd (bs : List UInt8) (p : Nat) : List AV := [sl cU bs,iv (p : Int)]
def pickX (bs : List UInt8) (q : Int) : Int := ((bs[(q % (bs.length : Int)).toNat]!).toNat : Int) * 131 + ((bs[((q * 7 + 3) % (bs.length : Int)).toNat]!).toNat : Int) * 1117 + q * 29 + q / (bs.length : Int) * 53
def pickF (bs : List UInt8) (p : Nat) (n : Int) : Int :=
 if n < 1 then 0 else if (bs.length : Int) = 0 then 0 else
 if (p : Int) + 1 - 1 < (bs.length : Int) then ((bs[((p : Int) + 1 - 1).toNat]!).toNat : Int) % n
 else (((pickX bs ((p : Int) + 1 - 1)).toNat ^^^ (pickX bs ((p : Int) + 1 - 1) / 64).toNat : Nat) : Int) % n
theorem pickF_bd (bs:List UInt8) (p:Nat) (n:Int):0 ≤ pickF bs p n ∧ (pickF bs p n < n ∨ n < 1 ∧ pickF bs p n = 0):=by
 unfold pickF
 split
 ·omega
 ·split
  ·omega
  ·split
   ·exact ⟨Int.emod_nonneg _ (by omega),.inl (Int.emod_lt_of_pos _ (by omega))⟩
   ·exact ⟨Int.emod_nonneg _ (by omega),.inl (Int.emod_lt_of_pos _ (by omega))⟩
def numF (bs : List UInt8) (p : Nat) (xs : List Int) : Int := xs[(pickF bs p (xs.length : Int)).toNat]!
class NumL (cs : List AV) (xs : outParam (List Int)) : Prop where h : cs = flat cI xs
instance NumL.nil : NumL [] []:=⟨rfl⟩
instance NumL.cons {n : Int} {cs : List AV} {xs : List Int} [h : NumL cs xs] : NumL (.v (.int .i64 n) :: cs) (n :: xs):=⟨by rw [h.h]; rfl⟩
theorem rx_pick {bs:List UInt8}{p:Nat}{n:Int}{x0 x1:Operand}{i0:Nat}(ha0:ev (lk tsl) x0 = some (.optr i0 0)) (ha1:ev (lk tsl) x1 = some (iv n)) (hH0:lkH hsl i0 = some (cRd bs p)) (hmc:MC Tryz.prog 33 [.optr 0 0,iv n] [(0,some (cRd bs p))] 1 (fun _:Unit => True) (fun _ => iv (pickF bs p n)) (fun _ => [(0,some (cRd bs (p + 1)))])) (hM:Nat.ble (nidl + 0) big = true) (hN:Nat.blt d N = true){md':Md}[hmd:MdA md (rOs [x0,x1] ++ [.inr i0]) (List.map Sum.inr (List.map Prod.fst ([(i0,some (cRd bs (p + 1)))]:List (Nat × Option (List AV)))) ++ [.inl d]) md'] (kk:RW Tryz.prog N all Q md' rest ⟨(d,iv (pickF bs p n)) :: tsl,wrH hsl [(i0,some (cRd bs (p + 1)))],nidl + 0,z0⟩):RW Tryz.prog N all Q md (⟨some d,.call ⟨.value (.func 33),#[x0,x1],tys⟩,ty,pos,af,none⟩ :: rest) ⟨tsl,hsl,nidl,z0⟩:=by
 exact rx_mcallA (l := [x0,x1]) [i0] 1 [(i0,some (cRd bs (p + 1)))] hmc (avs := [.optr i0 0,iv n]) (by simp only [evL,ha0,ha1]) rfl hM hN (md' := md') (hmd := hmd) kk
theorem rx_num0 {bs:List UInt8}{p:Nat}{xs:List Int}{x0 x1:Operand}{i0:Nat}(ha0:ev (lk tsl) x0 = some (.optr i0 0)) (ha1:ev (lk tsl) x1 = some (sl cI xs)) (hH0:lkH hsl i0 = some (cRd bs p)) (hmc:MC Tryz.prog 34 [.optr 0 0,sl cI xs] [(0,some (cRd bs p))] 1 (fun _:Unit => True) (fun _ => iv (numF bs p xs)) (fun _ => [(0,some (cRd bs (p + 1)))])) (hM:Nat.ble (nidl + 0) big = true) (hN:Nat.blt d N = true){md':Md}[hmd:MdA md (rOs [x0,x1] ++ [.inr i0]) (List.map Sum.inr (List.map Prod.fst ([(i0,some (cRd bs (p + 1)))]:List (Nat × Option (List AV)))) ++ [.inl d]) md'] (kk:RW Tryz.prog N all Q md' rest ⟨(d,iv (numF bs p xs)) :: tsl,wrH hsl [(i0,some (cRd bs (p + 1)))],nidl + 0,z0⟩):RW Tryz.prog N all Q md (⟨some d,.call ⟨.value (.func 34),#[x0,x1],tys⟩,ty,pos,af,none⟩ :: rest) ⟨tsl,hsl,nidl,z0⟩:=by
 exact rx_mcallA (l := [x0,x1]) [i0] 1 [(i0,some (cRd bs (p + 1)))] hmc (avs := [.optr i0 0,sl cI xs]) (by simp only [evL,ha0,ha1]) rfl hM hN (md' := md') (hmd := hmd) kk
theorem rx_num0O {bs:List UInt8}{p:Nat}{xs:List Int}{x0 x1:Operand}{i0 i1:Nat}(ha0:ev (lk tsl) x0 = some (.optr i0 0)) (ha1:ev (lk tsl) x1 = some (.own i1 0 xs.length 1)) (hH0:lkH hsl i0 = some (cRd bs p)) (hH1:lkH hsl i1 = some (flat cI xs)) (hdd:Go.AL.distinct [i0,i1] = true) (hmc:MC Tryz.prog 34 [.optr 0 0,.own 1 0 xs.length 1] [(0,some (cRd bs p)),(1,some (flat cI xs))] 2 (fun _:Unit => True) (fun _ => iv (numF bs p xs)) (fun _ => [(0,some (cRd bs (p + 1)))])) (hM:Nat.ble (nidl + 0) big = true) (hN:Nat.blt d N = true){md':Md}[hmd:MdA md (rOs [x0,x1] ++ [.inr i0,.inr i1]) (List.map Sum.inr (List.map Prod.fst ([(i0,some (cRd bs (p + 1))),(i1,none)]:List (Nat × Option (List AV)))) ++ [.inl d]) md'] (kk:RW Tryz.prog N all Q md' rest ⟨(d,iv (numF bs p xs)) :: tsl,wrH hsl [(i0,some (cRd bs (p + 1))),(i1,none)],nidl + 0,z0⟩):RW Tryz.prog N all Q md (⟨some d,.call ⟨.value (.func 34),#[x0,x1],tys⟩,ty,pos,af,none⟩ :: rest) ⟨tsl,hsl,nidl,z0⟩:=by
 exact rx_mcallA (l := [x0,x1]) [i0,i1] 2 [(i0,some (cRd bs (p + 1))),(i1,none)] hmc (avs := [.optr i0 0,.own i1 0 xs.length 1]) (by simp only [evL,ha0,ha1]) hdd hM hN (md' := md') (hmd := hmd) kk
theorem pick_c (bs:List UInt8) (p:Nat) (n:Int) (hb:bs.length ≤ 2000) (hp:p ≤ 1048576) (hn0:0 ≤ n) (hn:n ≤ 1048576):MC Tryz.prog 33 [.optr 0 0,iv n] [(0,some (cRd bs p))] 1 (fun _:Unit => True) (fun _ => iv (pickF bs p n)) (fun _ => [(0,some (cRd bs (p + 1)))]):=by
 have hdiv : 0 ≤ ((p : Int) + 1 - 1) / (bs.length : Int) ∧ ((p : Int) + 1 - 1) / (bs.length : Int) ≤ p + 1 - 1 := ⟨Int.ediv_nonneg (by omega) (by omega),Int.ediv_le_self _ (by omega)⟩
 refine mc_start Tryz.func33 Tryz.ntmps33 ?_
 repeat' (first|(apply id_rw;(apply rx_convB;rfl;rfl;(case' kk => intro hbd)))|refine stpb ?_|(refine stp2 ?_ ?_ <;> intro hc hq <;> try (exfalso;omega))|(refine stp3 ?_ ?_ <;> intro hg hq <;> try (exfalso;omega))|refine stpd ?_|fail)
 all_goals (refine rq_ret rfl ?_; refine mc_ret () trivial ?_ ⟨sE ?_,trivial⟩)
 all_goals first|rfl|skip
 all_goals simp only [oneOf,AV.v.injEq,Value.int.injEq,true_and,pickF]
 ·rw [if_neg (by omega),if_pos (by omega)]
 ·rw [if_neg (by omega),if_neg (by omega),if_pos (by omega)]
 ·rw [if_neg (by omega),if_neg (by omega),if_neg (by omega)]; rfl
 ·rw [if_pos (by omega)]
theorem num0_c (bs:List UInt8) (p:Nat) (xs:List Int) (hb:bs.length ≤ 2000) (hp:p ≤ 1048576) (h0:0 < xs.length) (hn:xs.length ≤ 1048576):MC Tryz.prog 34 [.optr 0 0,sl cI xs] [(0,some (cRd bs p))] 1 (fun _:Unit => True) (fun _ => iv (numF bs p xs)) (fun _ => [(0,some (cRd bs (p + 1)))]):=by
 have hpf := pickF_bd bs p xs.length
 refine mc_start Tryz.func34 Tryz.ntmps34 ?_
 repeat' (first|(apply id_rw;(apply rx_pick;rfl;rfl;(rfl);(apply pick_c <;> (first|assumption|omega));rfl;rfl))|refine stpb ?_|fail)
 (refine rq_ret rfl ?_; refine mc_ret () trivial ?_ ⟨sE ?_,trivial⟩)
 ·rfl
 ·rfl
theorem rx_num {Q:Exit → AS → Prop}{all:Array Oper}{rest:List Oper}{N:Nat}{tsl:List (Nat × AV)}{hsl:List (Nat × Option (List AV))}{nidl:Nat}{z0:Lo}{md:Md}{d:Nat}{ty:TypeId}{pos:String}{af:Array Edge}{tys:Array TypeId}
  {bs : List UInt8} {p m : Nat} {cs : List AV} {xs : List Int} {x0 x1 : Operand} {i0 : Nat} (ha0 : ev (lk tsl) x0 = some (.optr i0 0)) (ha1 : ev (lk tsl) x1 = some (.imm m cs)) (hcs : NumL cs xs) (hH0 : lkH hsl i0 = some (cRd bs p))
  (hm : m = xs.length) (hb : bs.length ≤ 2000) (hp : p ≤ 1048576) (h0 : 0 < xs.length) (hn : xs.length ≤ 1048576) (hM : Nat.ble (nidl + 0) big = true) (hN : Nat.blt d N = true) {md' : Md}
  [hmd : MdA md (rOs [x0,x1] ++ [.inr i0]) [.inr i0,.inl d] md']
  (kk : RW Tryz.prog N all Q md' rest ⟨(d,iv (numF bs p xs)) :: tsl,(i0,some (cRd bs (p + 1))) :: hsl,nidl + 0,z0⟩) : RW Tryz.prog N all Q md (⟨some d,.call ⟨.value (.func 34),#[x0,x1],tys⟩,ty,pos,af,none⟩ :: rest) ⟨tsl,hsl,nidl,z0⟩ := by
 have h := hcs.h
 subst hm h
 exact rx_num0 ha0 ha1 hH0 (num0_c bs p xs hb hp h0 hn) hM hN (hmd := hmd) kk
theorem num0O_c (bs:List UInt8) (p:Nat) (xs:List Int) (hb:bs.length ≤ 2000) (hp:p ≤ 1048576) (h0:0 < xs.length) (hn:xs.length ≤ 1048576):MC Tryz.prog 34 [.optr 0 0,.own 1 0 xs.length 1] [(0,some (cRd bs p)),(1,some (flat cI xs))] 2 (fun _:Unit => True) (fun _ => iv (numF bs p xs)) (fun _ => [(0,some (cRd bs (p + 1)))]):=by
 have hpf := pickF_bd bs p xs.length
 refine mc_start Tryz.func34 Tryz.ntmps34 ?_
 repeat' (first|(apply id_rw;(apply rx_pick;rfl;rfl;(rfl);(apply pick_c <;> (first|assumption|omega));rfl;rfl))|refine stpb ?_|fail)
 (refine rq_ret rfl ?_; refine mc_ret () trivial ?_ ⟨sE ?_,trivial⟩)
 ·rfl
 ·rfl
theorem rx_numO {Q:Exit → AS → Prop}{all:Array Oper}{rest:List Oper}{N:Nat}{tsl:List (Nat × AV)}{hsl:List (Nat × Option (List AV))}{nidl:Nat}{z0:Lo}{md:Md}{d:Nat}{ty:TypeId}{pos:String}{af:Array Edge}{tys:Array TypeId}
  {bs : List UInt8} {p m : Nat} {cs : List AV} {xs : List Int} {x0 x1 : Operand} {i0 i1 : Nat} (ha0 : ev (lk tsl) x0 = some (.optr i0 0)) (ha1 : ev (lk tsl) x1 = some (.own i1 0 m 1)) (hH0 : lkH hsl i0 = some (cRd bs p)) (hH1 : lkH hsl i1 = some cs) (hcs : NumL cs xs)
  (hdd : Go.AL.distinct [i0,i1] = true) (hm : m = xs.length) (hb : bs.length ≤ 2000) (hp : p ≤ 1048576) (h0 : 0 < xs.length) (hn : xs.length ≤ 1048576) (hM : Nat.ble (nidl + 0) big = true) (hN : Nat.blt d N = true) {md' : Md}
  [hmd : MdA md (rOs [x0,x1] ++ [.inr i0,.inr i1]) [.inr i0,.inr i1,.inl d] md']
  (kk : RW Tryz.prog N all Q md' rest ⟨(d,iv (numF bs p xs)) :: tsl,wrH hsl [(i0,some (cRd bs (p + 1))),(i1,none)],nidl + 0,z0⟩) : RW Tryz.prog N all Q md (⟨some d,.call ⟨.value (.func 34),#[x0,x1],tys⟩,ty,pos,af,none⟩ :: rest) ⟨tsl,hsl,nidl,z0⟩ := by
 have h := hcs.h
 subst hm h
 exact rx_num0O ha0 ha1 hH0 hH1 hdd (num0O_c bs p xs hb hp h0 hn) hM hN (hmd := hmd) kk
theorem open_c (bs:List UInt8) (hb:bs.length ≤ 1048576):MC Tryz.prog 32 [sl cU bs] [] 0 (fun _:Unit => True) (fun _ => .optr 0 0) (fun _ => [(0,some (cRd (bs.take 2000) 0))]):=by
 refine mc_start Tryz.func32 Tryz.ntmps32 ?_
 repeat' (first|refine stpb ?_|(refine stp2 ?_ ?_ <;> intro hc hq <;> try (exfalso;omega))|fail)
 ·(refine rq_ret rfl ?_; refine mc_ret () trivial ?_ ⟨sE ?_, trivial⟩)
  ·rfl
  ·rfl
 ·(refine rq_ret rfl ?_; refine mc_ret () trivial ?_ ⟨sE ?_, trivial⟩)
  ·rfl
  ·rw [List.take_of_length_le (by omega)]; rfl
def st (op x y n : Int) : AL.Stmt := .mk op x y n [] []
def one0F (bs : List UInt8) (p : Nat) : AL.Stmt × Nat :=
 let box := 1 + pickF bs p 2
 let owner := numF bs (p + 1) [1,2,1,4,5]
 let c := pickF bs (p + 1 + 1) 11
 if c = 0 then (st 1 0 0 (pickF bs (p + 1 + 1 + 1) 10),p + 4)
 else if c = 1 then (st 2 box 0 (pickF bs (p + 1 + 1 + 1) 10),p + 4)
 else if c = 2 then (st 3 box (3 - box) 0,p + 3)
 else if c = 3 then (st 4 3 owner 0,p + 3)
 else if c = 4 ∨ c = 5 then (st 5 4 (numF bs (p + 1 + 1 + 1) [1,2,1,5]) 0,p + 4)
 else if c = 6 then (st 6 0 (numF bs (p + 1 + 1 + 1) [3,4,1,2,5]) 0,p + 4)
 else if c = 7 then (st 7 (numF bs (p + 1 + 1 + 1) [4,1,2,5]) 0 0,p + 4)
 else if c = 8 then (st 8 box 0 0,p + 3)
 else (st 5 5 (numF bs (p + 1 + 1 + 1) [4,1,2]) 0,p + 4)
def someL (one : Nat → AL.Stmt × Nat) (s : AL.Stmt) (p : Nat) : Nat → List AL.Stmt × Nat
 | 0 => ([s],p)
 | k + 1 => ((someL one s p k).1 ++ [(one (someL one s p k).2).1],(one (someL one s p k).2).2)
def oneN (bs : List UInt8) : Nat → Nat → AL.Stmt × Nat
 | 0,p => one0F bs p
 | d + 1, p =>
  let c := pickF bs (p + 1 + 1) 11
  if c = 9 then
   let r := someL (oneN bs d) (st 2 1 0 (pickF bs (p + 1 + 1 + 1 + 1) 10)) (p + 1 + 1 + 1 + 1 + 1) (pickF bs (p + 1 + 1 + 1) 3).toNat
   let e := one0F bs r.2
   (.mk 9 0 0 0 r.1 [e.1],e.2)
  else if c = 10 then
   let a := one0F bs (p + 1 + 1 + 1)
   let b := one0F bs a.2
   (.mk 10 0 0 0 [a.1,b.1] [],b.2)
  else one0F bs p
def oneF (bs : List UInt8) (d : Int) (p : Nat) : AL.Stmt × Nat := oneN bs d.toNat p
def someF (bs : List UInt8) (d n : Int) (p : Nat) : List AL.Stmt × Nat := someL (oneF bs d) (st 2 1 0 (pickF bs p 10)) (p + 1) n.toNat
theorem one0_p (bs:List UInt8) (p:Nat):(one0F bs p).2 ≤ p + 4:=by
 unfold one0F;dsimp only;repeat' split
 all_goals omega
theorem one0_n (bs:List UInt8) (p:Nat):cntS (one0F bs p).1 = 1:=by
 unfold one0F st;dsimp only;repeat' split
 all_goals simp [cntS,cntL]
theorem someL_p {one:Nat → AL.Stmt × Nat}{c:Nat}(h:∀ p,(one p).2 ≤ p + c) (s:AL.Stmt) (p:Nat):∀ k,(someL one s p k).2 ≤ p + k * c
 | 0 => by simp [someL]
 | k + 1 => by
  have := someL_p h s p k
  have := h (someL one s p k).2
  simp only [someL,Nat.succ_mul]; omega
theorem someL_n {one:Nat → AL.Stmt × Nat}{c:Nat}(h:∀ p,cntS (one p).1 ≤ c) (s:AL.Stmt) (p:Nat):∀ k,cntL (someL one s p k).1 ≤ cntS s + k * c
 | 0 => by simp [someL,cntL]
 | k + 1 => by
  have := someL_n h s p k
  have := h (someL one s p k).2
  simp only [someL,Nat.succ_mul,cntL_append,cntL]; omega
def cstP : Nat → Nat
 | 0 => 4
 | d + 1 => 9 + 2 * cstP d
def cstN : Nat → Nat
 | 0 => 1
 | d + 1 => 3 + 2 * cstN d
theorem k3 (bs:List UInt8) (p:Nat):(pickF bs p 3).toNat ≤ 2 := by have := pickF_bd bs p 3;omega
theorem oneN_p (bs:List UInt8):∀ d p,(oneN bs d p).2 ≤ p + cstP d
 | 0,p => one0_p bs p
 | d + 1, p => by
  have h0 := one0_p bs p
  have h1 := someL_p (oneN_p bs d) (st 2 1 0 (pickF bs (p + 1 + 1 + 1 + 1) 10)) (p + 1 + 1 + 1 + 1 + 1) (pickF bs (p + 1 + 1 + 1) 3).toNat
  have h2 := k3 bs (p + 1 + 1 + 1)
  have h3 : (pickF bs (p + 1 + 1 + 1) 3).toNat * cstP d ≤ 2 * cstP d := Nat.mul_le_mul_right _ h2
  have h4 := one0_p bs (someL (oneN bs d) (st 2 1 0 (pickF bs (p + 1 + 1 + 1 + 1) 10)) (p + 1 + 1 + 1 + 1 + 1) (pickF bs (p + 1 + 1 + 1) 3).toNat).2
  have h5 := one0_p bs (p + 1 + 1 + 1)
  have h6 := one0_p bs (one0F bs (p + 1 + 1 + 1)).2
  have h7 : 1 ≤ cstP d := by cases d <;> simp only [cstP] <;> omega
  simp only [oneN,cstP]
  split
  ·dsimp only;omega
  ·split
   ·dsimp only;omega
   ·omega
theorem oneN_n (bs:List UInt8):∀ d p,cntS (oneN bs d p).1 ≤ cstN d
 | 0,p => by rw [oneN,one0_n]; decide
 | d + 1, p => by
  have h0 := one0_n bs p
  have h1 := someL_n (oneN_n bs d) (st 2 1 0 (pickF bs (p + 1 + 1 + 1 + 1) 10)) (p + 1 + 1 + 1 + 1 + 1) (pickF bs (p + 1 + 1 + 1) 3).toNat
  have h2 := k3 bs (p + 1 + 1 + 1)
  have h3 : (pickF bs (p + 1 + 1 + 1) 3).toNat * cstN d ≤ 2 * cstN d := Nat.mul_le_mul_right _ h2
  have h4 := one0_n bs (someL (oneN bs d) (st 2 1 0 (pickF bs (p + 1 + 1 + 1 + 1) 10)) (p + 1 + 1 + 1 + 1 + 1) (pickF bs (p + 1 + 1 + 1) 3).toNat).2
  have h5 := one0_n bs (p + 1 + 1 + 1)
  have h6 := one0_n bs (one0F bs (p + 1 + 1 + 1)).2
  have h7 : cntS (st 2 1 0 (pickF bs (p + 1 + 1 + 1 + 1) 10)) = 1 := by simp [st,cntS,cntL]
  simp only [oneN,cstN]
  split
  ·simp only [cntS,cntL]; omega
  ·split
   ·simp only [cntS,cntL]; omega
   ·omega
theorem oneF_p (bs:List UInt8){d:Int}(h:d ≤ 2) (p:Nat):(oneF bs d p).2 ≤ p + 43:=by
 have h1 := oneN_p bs d.toNat p
 have h2 : cstP d.toNat ≤ 43 := by
  have : d.toNat = 0 ∨ d.toNat = 1 ∨ d.toNat = 2 := by omega
  rcases this with h|h|h <;> rw [h] <;> decide
 exact Nat.le_trans h1 (by omega)
theorem oneF_n (bs:List UInt8){d:Int}(h:d ≤ 2) (p:Nat):cntS (oneF bs d p).1 ≤ 13:=by
 have h1 := oneN_n bs d.toNat p
 have h2 : cstN d.toNat ≤ 13 := by
  have : d.toNat = 0 ∨ d.toNat = 1 ∨ d.toNat = 2 := by omega
  rcases this with h|h|h <;> rw [h] <;> decide
 exact Nat.le_trans h1 h2
theorem someL_len {one:Nat → AL.Stmt × Nat}(s:AL.Stmt) (p:Nat):∀ k,(someL one s p k).1.length = k + 1
 | 0 => rfl
 | k + 1 => by simp only [someL,List.length_append,someL_len s p k,List.length_cons,List.length_nil]
theorem someF_len (bs:List UInt8) (d:Int) (n p:Nat):(someF bs d (n:Int) p).1.length = n + 1 := someL_len _ _ _
theorem someF_S (bs:List UInt8) (d:Int) (k p:Nat):someF bs d ((k + 1:Nat):Int) p = ((someF bs d (k:Int) p).1 ++ [(oneF bs d (someF bs d (k:Int) p).2).1],(oneF bs d (someF bs d (k:Int) p).2).2) := rfl
theorem app_stmt {xs:List AL.Stmt}{m:Nat}{s:AL.Stmt}(hm:m = xs.length):((flat cStmt xs).drop 0).take (m * 6) ++ [iv s.op,iv s.x,iv s.y,iv s.n,sl cStmt s.th,sl cStmt s.el] = flat cStmt (xs ++ [s]) := app_flat hm (cStmt_def s).symm
def uOp (s : AL.Stmt) (a : Int) : AL.Stmt := .mk a s.x s.y s.n s.th s.el
def uX (s : AL.Stmt) (a : Int) : AL.Stmt := .mk s.op a s.y s.n s.th s.el
def uY (s : AL.Stmt) (a : Int) : AL.Stmt := .mk s.op s.x a s.n s.th s.el
def uN (s : AL.Stmt) (a : Int) : AL.Stmt := .mk s.op s.x s.y a s.th s.el
theorem st_sop {xs:List AL.Stmt}{k:Nat}{a:Int}(hk:k < xs.length):spl (flat cStmt xs) (0 + k * 6 + 0) [iv a] = flat cStmt (xs.set k (uOp xs[k]! a)) := st_flat hk (by simp) (by rw [cStmt_def,cStmt_def]; rfl)
theorem st_sx {xs:List AL.Stmt}{k:Nat}{a:Int}(hk:k < xs.length):spl (flat cStmt xs) (0 + k * 6 + 1) [iv a] = flat cStmt (xs.set k (uX xs[k]! a)) := st_flat hk (by simp) (by rw [cStmt_def,cStmt_def]; rfl)
theorem st_sy {xs:List AL.Stmt}{k:Nat}{a:Int}(hk:k < xs.length):spl (flat cStmt xs) (0 + k * 6 + 2) [iv a] = flat cStmt (xs.set k (uY xs[k]! a)) := st_flat hk (by simp) (by rw [cStmt_def,cStmt_def]; rfl)
theorem st_sn {xs:List AL.Stmt}{k:Nat}{a:Int}(hk:k < xs.length):spl (flat cStmt xs) (0 + k * 6 + 3) [iv a] = flat cStmt (xs.set k (uN xs[k]! a)) := st_flat hk (by simp) (by rw [cStmt_def,cStmt_def]; rfl)
theorem someF_p (bs:List UInt8){d:Int}(h:d ≤ 2) (n:Int) (p:Nat):(someF bs d n p).2 ≤ p + 1 + n.toNat * 43 := someL_p (oneF_p bs h) _ _ _
theorem someF_n (bs:List UInt8){d:Int}(h:d ≤ 2) (n:Int) (p:Nat):cntL (someF bs d n p).1 ≤ 1 + n.toNat * 13:=by
 have h7 : cntS (st 2 1 0 (pickF bs p 10)) = 1 := by simp [st,cntS,cntL]
 have := someL_n (oneF_n bs h) (st 2 1 0 (pickF bs p 10)) (p + 1) n.toNat
 rw [h7] at this
 exact this
theorem oneF_S (bs:List UInt8){d:Int}(h:0 < d) (p:Nat):oneF bs d p = 
  let c := pickF bs (p + 1 + 1) 11
  if c = 9 then
   let r := someF bs (d - 1) (pickF bs (p + 1 + 1 + 1) 3) (p + 1 + 1 + 1 + 1)
   let e := oneF bs 0 r.2
   (.mk 9 0 0 0 r.1 [e.1],e.2)
  else if c = 10 then
   let a := oneF bs 0 (p + 1 + 1 + 1)
   let b := oneF bs 0 a.2
   (.mk 10 0 0 0 [a.1,b.1] [],b.2)
  else one0F bs p := by
 have : d.toNat = (d - 1).toNat + 1 := by omega
 simp only [oneF,this,oneN,someF]
 rfl
theorem flat1 (s:AL.Stmt):flat cStmt [s] = [iv s.op,iv s.x,iv s.y,iv s.n,sl cStmt s.th,sl cStmt s.el] := by simp [flat,cStmt_def]
theorem flat2 (s t:AL.Stmt):flat cStmt [s,t] = [iv s.op,iv s.x,iv s.y,iv s.n,sl cStmt s.th,sl cStmt s.el,iv t.op,iv t.x,iv t.y,iv t.n,sl cStmt t.th,sl cStmt t.el] := by simp [flat,cStmt_def]
theorem oneF_b (bs:List UInt8){d:Int}(h0:0 ≤ d) (p:Nat) (h:¬ 0 < d ∨ (pickF bs (p + 1 + 1) 11 ≠ 9 ∧ pickF bs (p + 1 + 1) 11 ≠ 10)):oneF bs d p = one0F bs p:=by
 by_cases hd : 0 < d
 ·rw [oneF_S bs hd p]
  dsimp only
  rw [if_neg (by omega),if_neg (by omega)]
 ·have : d = 0 := by omega
  subst this;rfl
theorem oneF_9 (bs:List UInt8){d:Int}(hd:0 < d) (p:Nat) (h:pickF bs (p + 1 + 1) 11 = 9):oneF bs d p = (.mk 9 0 0 0 (someF bs (d - 1) (pickF bs (p + 1 + 1 + 1) 3) (p + 1 + 1 + 1 + 1)).1 [(oneF bs 0 (someF bs (d - 1) (pickF bs (p + 1 + 1 + 1) 3) (p + 1 + 1 + 1 + 1)).2).1],(oneF bs 0 (someF bs (d - 1) (pickF bs (p + 1 + 1 + 1) 3) (p + 1 + 1 + 1 + 1)).2).2):=by
 rw [oneF_S bs hd p]
 dsimp only
 rw [if_pos h]
theorem oneF_10 (bs:List UInt8){d:Int}(hd:0 < d) (p:Nat) (h:pickF bs (p + 1 + 1) 11 = 10):oneF bs d p = (.mk 10 0 0 0 [(oneF bs 0 (p + 1 + 1 + 1)).1,(oneF bs 0 (oneF bs 0 (p + 1 + 1 + 1)).2).1] [],(oneF bs 0 (oneF bs 0 (p + 1 + 1 + 1)).2).2):=by
 rw [oneF_S bs hd p]
 dsimp only
 rw [if_neg (by omega),if_pos h]
theorem rx_l1One {bs:List UInt8}{p:Nat}{ts:List Int}{dp:Int}{x0 x1 x2:Operand}{i0:Nat}(ha0:ev (lk tsl) x0 = some (.optr i0 0)) (ha1:ev (lk tsl) x1 = some (sl cI ts)) (ha2:ev (lk tsl) x2 = some (iv dp)) (hH0:lkH hsl i0 = some (cRd bs p)) (hmc:MC Tryz.prog 146 [.optr 0 0,sl cI ts,iv dp] [(0,some (cRd bs p))] 1 (fun _:Unit => True) (fun _ => aStmt (oneF bs dp p).1) (fun _ => [(0,some (cRd bs (oneF bs dp p).2))])) (hM:Nat.ble (nidl + 0) big = true) (hN:Nat.blt d N = true){md':Md}[hmd:MdA md (rOs [x0,x1,x2] ++ [.inr i0]) (List.map Sum.inr (List.map Prod.fst ([(i0,some (cRd bs (oneF bs dp p).2))]:List (Nat × Option (List AV)))) ++ [.inl d]) md'] (kk:RW Tryz.prog N all Q md' rest ⟨(d,aStmt (oneF bs dp p).1) :: tsl,wrH hsl [(i0,some (cRd bs (oneF bs dp p).2))],nidl + 0,z0⟩):RW Tryz.prog N all Q md (⟨some d,.call ⟨.value (.func 146),#[x0,x1,x2],tys⟩,ty,pos,af,none⟩ :: rest) ⟨tsl,hsl,nidl,z0⟩:=by
 exact rx_mcallA (l := [x0,x1,x2]) [i0] 1 [(i0,some (cRd bs (oneF bs dp p).2))] hmc (avs := [.optr i0 0,sl cI ts,iv dp]) (by simp only [evL,ha0,ha1,ha2]) rfl hM hN (md' := md') (hmd := hmd) kk
theorem rx_l1Some {bs:List UInt8}{p:Nat}{ts:List Int}{dp cn:Int}{x0 x1 x2 x3:Operand}{i0:Nat}(ha0:ev (lk tsl) x0 = some (.optr i0 0)) (ha1:ev (lk tsl) x1 = some (sl cI ts)) (ha2:ev (lk tsl) x2 = some (iv dp)) (ha3:ev (lk tsl) x3 = some (iv cn)) (hH0:lkH hsl i0 = some (cRd bs p)) (hmc:MC Tryz.prog 98 [.optr 0 0,sl cI ts,iv dp,iv cn] [(0,some (cRd bs p))] 1 (fun _:Unit => True) (fun _ => sl cStmt (someF bs dp cn p).1) (fun _ => [(0,some (cRd bs (someF bs dp cn p).2))])) (hM:Nat.ble (nidl + 0) big = true) (hN:Nat.blt d N = true){md':Md}[hmd:MdA md (rOs [x0,x1,x2,x3] ++ [.inr i0]) (List.map Sum.inr (List.map Prod.fst ([(i0,some (cRd bs (someF bs dp cn p).2))]:List (Nat × Option (List AV)))) ++ [.inl d]) md'] (kk:RW Tryz.prog N all Q md' rest ⟨(d,sl cStmt (someF bs dp cn p).1) :: tsl,wrH hsl [(i0,some (cRd bs (someF bs dp cn p).2))],nidl + 0,z0⟩):RW Tryz.prog N all Q md (⟨some d,.call ⟨.value (.func 98),#[x0,x1,x2,x3],tys⟩,ty,pos,af,none⟩ :: rest) ⟨tsl,hsl,nidl,z0⟩:=by
 exact rx_mcallA (l := [x0,x1,x2,x3]) [i0] 1 [(i0,some (cRd bs (someF bs dp cn p).2))] hmc (avs := [.optr i0 0,sl cI ts,iv dp,iv cn]) (by simp only [evL,ha0,ha1,ha2,ha3]) rfl hM hN (md' := md') (hmd := hmd) kk
attribute [local irreducible] pickF
theorem l1One_c0 (D:Int) (hD0:0 ≤ D) (hD:D ≤ 2) (l1One_ih:∀ bs p ts,0 < D → bs.length ≤ 2000 → p ≤ 900000 → ∀ dp:Int,dp = 0 → MC Tryz.prog 146 [.optr 0 0,sl cI ts,iv dp] [(0,some (cRd bs p))] 1 (fun _:Unit => True) (fun _ => aStmt (oneF bs dp p).1) (fun _ => [(0,some (cRd bs (oneF bs dp p).2))])) (l1Some_ih:∀ bs (p:Nat) ts cn,0 < D → bs.length ≤ 2000 → (p:Int) ≤ 850000 - 100000 * (D - 1) → 0 ≤ cn → cn ≤ 2 → ∀ dp:Int,dp = D - 1 → MC Tryz.prog 98 [.optr 0 0,sl cI ts,iv dp,iv cn] [(0,some (cRd bs p))] 1 (fun _:Unit => True) (fun _ => sl cStmt (someF bs dp cn p).1) (fun _ => [(0,some (cRd bs (someF bs dp cn p).2))])) (bs:List UInt8) (p:Nat) (ts:List Int) (dp:Int) (hd:dp = D) (hb:bs.length ≤ 2000) (hp:(p:Int) ≤ 900000 - 100000 * D):MC Tryz.prog 146 [.optr 0 0,sl cI ts,iv dp] [(0,some (cRd bs p))] 1 (fun _:Unit => True) (fun _ => aStmt (oneF bs dp p).1) (fun _ => [(0,some (cRd bs (oneF bs dp p).2))]):=by
 subst hd
 have h0 := pickF_bd bs p 2
 have h2 := pickF_bd bs (p + 1 + 1) 11
 have h3 := pickF_bd bs (p + 1 + 1 + 1) 3
 have h3' := k3 bs (p + 1 + 1 + 1)
 have h4 := oneF_p bs (d := 0) (by omega) (p + 1 + 1 + 1)
 have h5 := someF_p bs (d := dp - 1) (by omega) (pickF bs (p + 1 + 1 + 1) 3) (p + 1 + 1 + 1 + 1)
 have h6 : (pickF bs (p + 1 + 1 + 1) 3).toNat * 43 ≤ 2 * 43 := Nat.mul_le_mul_right _ h3'
 refine mc_start Tryz.func146 Tryz.ntmps146 ?_
 repeat' (first|(apply id_rw;first|(apply rx_buildSliceI (t := _);rfl;rfl;rfl;(first|exact (rfl:_=some [_,_,_])|exact (rfl:_=some [_,_,_,_])|exact (rfl:_=some [_,_,_,_,_])|exact (rfl:_=some [_,_,_,_,_,_])|rfl);rfl;rfl)|(first|(apply rx_pick;rfl;rfl;(rfl);(apply pick_c <;> (first|assumption|omega));rfl;rfl)|(apply rx_num;rfl;rfl;infer_instance;rfl;(rfl);assumption;omega;(decide);(decide);rfl;rfl)|(apply rx_l1Some;rfl;rfl;rfl;rfl;(rfl);(apply l1Some_ih <;> (first|assumption|omega));rfl;rfl)|(apply rx_l1One;rfl;rfl;rfl;(rfl);(apply l1One_ih <;> (first|assumption|omega));rfl;rfl)))|refine stpb ?_|(refine stp2 ?_ ?_ <;> intro hc hq <;> try (exfalso;omega))|fail)
 all_goals try (refine rq_ret rfl ?_; refine mc_ret () trivial ?_ ⟨sE ?_,trivial⟩)
 all_goals try (rw [oneF_b bs hD0 p (by omega)]; unfold one0F; dsimp only; repeat' split
                all_goals (first|rfl|(exfalso;omega));done)
 iterate 2
  rewrite [oneF_9 bs (d := dp) (by assumption) p (by assumption)]
  first|rfl|(refine Eq.trans (b := AV.agg [_,_,_,_,_,AV.imm 1 (flat cStmt [_])]) ?_ rfl;rw [flat1]; rfl)
 iterate 2
  rewrite [oneF_10 bs (d := dp) (by omega) p (by omega)]
  first|rfl|(refine Eq.trans (b := AV.agg [_,_,_,_,AV.imm 2 (flat cStmt [_,_]),_]) ?_ rfl;rw [flat2]; rfl)
theorem l1Some_c0 (D:Int) (hD0:0 ≤ D) (hD:D ≤ 2) (l1One_ih:∀ bs (p:Nat) ts,bs.length ≤ 2000 → (p:Int) ≤ 900000 - 100000 * D → ∀ dp:Int,dp = D → MC Tryz.prog 146 [.optr 0 0,sl cI ts,iv dp] [(0,some (cRd bs p))] 1 (fun _:Unit => True) (fun _ => aStmt (oneF bs dp p).1) (fun _ => [(0,some (cRd bs (oneF bs dp p).2))])) (bs:List UInt8) (p:Nat) (ts:List Int) (dp:Int) (hd:dp = D) (cn:Int) (hb:bs.length ≤ 2000) (hp:(p:Int) ≤ 850000 - 100000 * D) (hc0:0 ≤ cn) (hc:cn ≤ 8):MC Tryz.prog 98 [.optr 0 0,sl cI ts,iv dp,iv cn] [(0,some (cRd bs p))] 1 (fun _:Unit => True) (fun _ => sl cStmt (someF bs dp cn p).1) (fun _ => [(0,some (cRd bs (someF bs dp cn p).2))]):=by
 subst hd
 refine mc_start Tryz.func98 Tryz.ntmps98 ?_
 repeat' (first|(apply id_rw;(apply rx_pick;rfl;rfl;(rfl);(apply pick_c <;> (first|assumption|omega));rfl;rfl))|refine stpb ?_|fail)
 refine aw_loopA (σ := Nat × List AL.Stmt × Nat) [0,1,2,3] [] (fun k => [(10,iv (k.1 : Int)),(9,.own 1 0 (k.1 + 1) 6)]) (fun k => [(0,some (cRd bs k.2.2)),(1,some (flat cStmt k.2.1))]) (fun k => (k.1 : Int) ≤ cn ∧ k.2 = someF bs dp (k.1 : Int) p) (fun k => cn.toNat - k.1) (0,[st 2 1 0 (pickF bs p 10)],p + 1) ⟨by omega,rfl⟩ ?_
 rintro ⟨k,xs,q⟩ ⟨hk,hse⟩
 dsimp only at hk hse ⊢
 have hp2 := someF_p bs (d := dp) (by omega) (k : Int) p
 have hkk : (k : Int).toNat * 43 ≤ 8 * 43 := Nat.mul_le_mul_right _ (by omega)
 have hln := someF_len bs dp k p
 rw [← hse] at hp2 hln
 dsimp only at hp2 hln
 repeat' (first|(apply id_rw;first|(apply rx_buildSliceI (t := _);rfl;rfl;rfl;(exact (rfl:_=some [_,_,_,_,_,_]));rfl;rfl)|(apply rx_l1One;rfl;rfl;rfl;(rfl);(apply l1One_ih <;> (first|assumption|omega));rfl;rfl))|refine stpb ?_|(refine stp2 ?_ ?_ <;> intro hc hq <;> try (exfalso;omega))|fail)
 ·(refine ex3 (k + 1, _, _) (Le.renA [(1, 3)]) ?_ ?_)
  ·dsimp only
   refine ⟨by omega,?_⟩
   rw [someF_S,← hse]
  ·dsimp only;omega
 ·have hke : (k : Int) = cn := by omega
  rw [hke] at hse
  (refine rq_le (Le.frzD (d := 8) (i := 1) rfl rfl) ?_; refine rq_ret rfl ?_)
  refine mc_ret () trivial ?_ ⟨sE ?_,trivial⟩
  ·rw [← hse]; show AV.imm (k + 1) (flat cStmt xs) = AV.imm xs.length (flat cStmt xs)
   rw [hln]
  ·rw [← hse]
theorem l1One_both:∀ D:Nat,D ≤ 2 → (∀ bs (p:Nat) ts,bs.length ≤ 2000 → (p:Int) ≤ 900000 - 100000 * (D:Int) → ∀ dp:Int,dp = (D:Int) → MC Tryz.prog 146 [.optr 0 0,sl cI ts,iv dp] [(0,some (cRd bs p))] 1 (fun _:Unit => True) (fun _ => aStmt (oneF bs dp p).1) (fun _ => [(0,some (cRd bs (oneF bs dp p).2))])) ∧ (∀ bs (p:Nat) ts (cn:Int),bs.length ≤ 2000 → (p:Int) ≤ 850000 - 100000 * (D:Int) → 0 ≤ cn → cn ≤ 8 → ∀ dp:Int,dp = (D:Int) → MC Tryz.prog 98 [.optr 0 0,sl cI ts,iv dp,iv cn] [(0,some (cRd bs p))] 1 (fun _:Unit => True) (fun _ => sl cStmt (someF bs dp cn p).1) (fun _ => [(0,some (cRd bs (someF bs dp cn p).2))]))
 | 0, _ => by
  have h1 : ∀ bs (p : Nat) ts, bs.length ≤ 2000 → (p : Int) ≤ 900000 - 100000 * ((0 : Nat) : Int) → ∀ dp : Int, dp = ((0 : Nat) : Int) → MC Tryz.prog 146 [.optr 0 0, sl cI ts, iv dp] [(0, some (cRd bs p))] 1 (fun _ : Unit => True) (fun _ => aStmt (oneF bs dp p).1) (fun _ => [(0, some (cRd bs (oneF bs dp p).2))]) :=
   fun bs p ts hb hp dp hd => l1One_c0 ((0 : Nat) : Int) (by omega) (by omega) (fun _ _ _ h => by omega) (fun _ _ _ _ h => by omega) bs p ts dp hd hb hp
  exact ⟨h1,fun bs p ts cn hb hp h0 h8 dp hd => l1Some_c0 ((0 : Nat) : Int) (by omega) (by omega) h1 bs p ts dp hd cn hb hp h0 h8⟩
 | D + 1, hD => by
  have ih := l1One_both D (by omega)
  have i0 := l1One_both 0 (by omega)
  have h1 : ∀ bs (p : Nat) ts, bs.length ≤ 2000 → (p : Int) ≤ 900000 - 100000 * ((D + 1 : Nat) : Int) → ∀ dp : Int, dp = ((D + 1 : Nat) : Int) → MC Tryz.prog 146 [.optr 0 0, sl cI ts, iv dp] [(0, some (cRd bs p))] 1 (fun _ : Unit => True) (fun _ => aStmt (oneF bs dp p).1) (fun _ => [(0, some (cRd bs (oneF bs dp p).2))]) :=
   fun bs p ts hb hp dp hd => l1One_c0 ((D + 1 : Nat) : Int) (by omega) (by omega) (fun bs p ts _ hb hp dp hd => i0.1 bs p ts hb (by omega) dp (by omega)) (fun bs p ts cn _ hb hp h0 h2 dp hd => ih.2 bs p ts cn hb (by omega) h0 (by omega) dp (by omega)) bs p ts dp hd hb hp
  exact ⟨h1,fun bs p ts cn hb hp h0 h8 dp hd => l1Some_c0 ((D + 1 : Nat) : Int) (by omega) (by omega) h1 bs p ts dp hd cn hb hp h0 h8⟩
theorem l1Some_c (bs:List UInt8) (p:Nat) (ts:List Int) (dp cn:Int) (hb:bs.length ≤ 2000) (hp:p ≤ 600000) (h0:0 ≤ cn) (h8:cn ≤ 8) (hd0:0 ≤ dp) (hd:dp ≤ 2):MC Tryz.prog 98 [.optr 0 0,sl cI ts,iv dp,iv cn] [(0,some (cRd bs p))] 1 (fun _:Unit => True) (fun _ => sl cStmt (someF bs dp cn p).1) (fun _ => [(0,some (cRd bs (someF bs dp cn p).2))]) :=
 (l1One_both dp.toNat (by omega)).2 bs p ts cn hb (by omega) h0 h8 dp (by omega)
end Go.Proofs.YtjnhlgpbojggnaaGreatDoor
namespace Go.Proofs.YtjnhlgpbojggnaaGreatDoor
open Go.AL Go.RowKit
variable {N : Nat} {Q : Exit → AS → Prop} {all : Array Oper} {rest : List Oper} {tsl : List (Nat × AV)} {hsl : List (Nat × Option (List AV))} {nidl : Nat} {z0 : Lo} {md : Md} {d : Nat} {ty : TypeId} {pos : String} {af : Array Edge} {tys : Array TypeId}
theorem RdC_kav {w:World}{bad:Nat → Prop}{ι:Pl}:∀ {cs cs':List AV},All2 (fun c c' => c' = c ∨ c' = kAV c) cs cs' → ∀ {b β:Nat},RdC w bad ι cs b β → RdC w bad ι cs' b β
 | _,_,.nil,_,_,h => h
 | _, _, .cons h1 h2, b, β, h => by
  simp only [RdC] at h ⊢
  obtain ⟨⟨x,q1,q2,q3⟩,q4⟩ := h
  refine ⟨⟨x,q1,q2,?_⟩,RdC_kav h2 q4⟩
  rcases h1 with rfl|rfl
  ·exact q3
  ·exact Rd_kAV q3
theorem kav_app:∀ (l:List AV){a b:List AV},All2 (fun c c' => c' = c ∨ c' = kAV c) a b → All2 (fun c c' => c' = c ∨ c' = kAV c) (l ++ a) (l ++ b)
 | [],_,_,h => h
 | _ :: l,_,_,h => .cons (.inl rfl) (kav_app l h)
theorem end_le {α:Type}{p q:α → Prop}{F:α → AS}{s s':AS}(L:Le s s') (h:∃ j,p j ∧ q j ∧ Le s' (F j)):∃ j,p j ∧ q j ∧ Le s (F j):=by
 obtain ⟨j,h1,h2,h3⟩ := h
 exact ⟨j,h1,h2,L.trans h3⟩
theorem Le.stmtN {ts:List (Nat × AV)}{hs:List (Nat × Option (List AV))}{n i:Nat}{z0:Lo}{xs:List AL.Stmt}(s:AL.Stmt){m:Nat}{a b:AV}(hm:m = xs.length)
  (ha : a = sl cStmt s.th ∨ (a = .v (.slice none 0 0) ∧ s.th = [])) (hb : b = sl cStmt s.el ∨ (b = .v (.slice none 0 0) ∧ s.el = []))
  (hi : lkH hs i = some (((flat cStmt xs).drop 0).take (m * 6) ++ List.take (1 * 6) [iv s.op,iv s.x,iv s.y,iv s.n,a,b])) : Le ⟨ts,hs,n,z0⟩ ⟨ts,(i,some (flat cStmt (xs ++ [s]))) :: hs,n,z0⟩ := by
 have e : flat cStmt (xs ++ [s]) = ((flat cStmt xs).drop 0).take (m * 6) ++ [iv s.op,iv s.x,iv s.y,iv s.n,sl cStmt s.th,sl cStmt s.el] := (app_stmt hm).symm
 have k : All2 (fun c c' => c' = c ∨ c' = kAV c) (((flat cStmt xs).drop 0).take (m * 6) ++ List.take (1 * 6) [iv s.op, iv s.x, iv s.y, iv s.n, a, b]) (flat cStmt (xs ++ [s])) := by
  rw [e]
  refine kav_app _ (.cons (.inl rfl) (.cons (.inl rfl) (.cons (.inl rfl) (.cons (.inl rfl) (.cons ?_ (.cons ?_ .nil))))))
  ·rcases ha with h | ⟨h, h2⟩
   ·exact .inl h.symm
   ·refine .inr ?_; rw [h2,h]; rfl
  ·rcases hb with h | ⟨h, h2⟩
   ·exact .inl h.symm
   ·refine .inr ?_; rw [h2,h]; rfl
 refine Le.cells hi ?_ fun w bad ι b β h => RdC_kav k h
 rw [e]; simp
theorem copy_c0 (mm:Nat) (hmm:mm ≤ 1048576) (copy_ih:∀ l,cntL l < mm → PC Tryz.prog 100 [sl cStmt l] (fun r => r = sl cStmt l)) (l:List AL.Stmt) (hs:cntL l ≤ mm):PC Tryz.prog 100 [sl cStmt l] (fun r => r = sl cStmt l):=by
 have hlen := cntL_len l
 refine pc_start Tryz.func100 Tryz.ntmps100 ?_
 repeat' (first|refine stpb ?_|fail)
 refine aw_loopA (σ := Nat × List AL.Stmt) [0] [] (fun k => [(4,iv (k.1 : Int)),(3,.own 0 0 k.1 6)]) (fun k => [(0,some (flat cStmt k.2))]) (fun k => k.1 ≤ l.length ∧ k.2 = l.take k.1) (fun k => l.length - k.1) (0,[]) ⟨by omega,rfl⟩ ?_
 rintro ⟨k,xs⟩ ⟨hk,hxs⟩
 dsimp only at hk hxs ⊢
 have hck := cntL_at l k
 have hct := cnt_th l[k]!
 have hln : xs.length = k := by rw [hxs,List.length_take]; omega
 repeat' (first|(apply id_rw;first|(apply rx_buildSliceI (t := _);rfl;rfl;rfl;(exact (rfl:_=some [_,_,_,_,_,_]));rfl;rfl)|(apply rx_callE (k := 100);rfl;(apply copy_ih <;> (omega));exact Pur.pf;rfl))|refine stpb ?_|(refine stp2 ?_ ?_ <;> intro hc hq <;> try (exfalso;omega))|fail)
 ·(refine ex3 (k + 1, _) (Le.renA [(0, 3)]) ?_ ?_)
  ·exact ⟨by dsimp only;omega,by dsimp only;rw [hxs,take_succB l k (by omega)]⟩
  ·dsimp only;omega
 ·have hel : l[k]!.el = [] := List.eq_nil_of_length_eq_zero (by omega)
  refine end_le (Le.stmtN (i := 3) l[k]! hln.symm (.inl rfl) (.inr ⟨rfl,hel⟩) rfl) ?_
  (refine ex3 (k + 1,_) (Le.renA [(0,3)]) ?_ ?_)
  ·exact ⟨by dsimp only;omega,by dsimp only;rw [hxs,take_succB l k (by omega)]⟩
  ·dsimp only;omega
 ·have hth : l[k]!.th = [] := List.eq_nil_of_length_eq_zero (by omega)
  refine end_le (Le.stmtN (i := 3) l[k]! hln.symm (.inr ⟨rfl,hth⟩) (.inl rfl) rfl) ?_
  (refine ex3 (k + 1,_) (Le.renA [(0,3)]) ?_ ?_)
  ·exact ⟨by dsimp only;omega,by dsimp only;rw [hxs,take_succB l k (by omega)]⟩
  ·dsimp only;omega
 ·have hth : l[k]!.th = [] := List.eq_nil_of_length_eq_zero (by omega)
  have hel : l[k]!.el = [] := List.eq_nil_of_length_eq_zero (by omega)
  refine end_le (Le.stmtN (i := 3) l[k]! hln.symm (.inr ⟨rfl,hth⟩) (.inr ⟨rfl,hel⟩) rfl) ?_
  (refine ex3 (k + 1,_) (Le.renA [(0,3)]) ?_ ?_)
  ·exact ⟨by dsimp only;omega,by dsimp only;rw [hxs,take_succB l k (by omega)]⟩
  ·dsimp only;omega
 ·have hke : k = l.length := by omega
  (refine rq_le (Le.frzD (d := 2) (i := 0) rfl rfl) ?_; refine rq_ret rfl ?_)
  refine ⟨?_,Pur.pf⟩
  rw [hxs,hke,List.take_length]; rfl
theorem copy_c (l:List AL.Stmt) (hb:cntL l ≤ 1048576):PC Tryz.prog 100 [sl cStmt l] (fun r => r = sl cStmt l):=by
 have key : ∀ m, m ≤ 1048576 → ∀ l, cntL l ≤ m → PC Tryz.prog 100 [sl cStmt l] (fun r => r = sl cStmt l) := by
  intro m
  induction m with
  | zero => intro hm l hl;exact copy_c0 0 hm (fun l h => by omega) l hl
  | succ m ih => intro hm l hl;exact copy_c0 (m + 1) hm (fun l h => ih (by omega) l (by omega)) l hl
 exact key (cntL l) hb l (Nat.le_refl _)
theorem copyM_c (l:List AL.Stmt) (hs:cntL l ≤ 1048576):MC Tryz.prog 100 [sl cStmt l] [] 0 (fun _:Unit => True) (fun _ => .own 0 0 l.length 6) (fun _ => [(0,some (flat cStmt l))]):=by
 have hlen := cntL_len l
 refine mc_start Tryz.func100 Tryz.ntmps100 ?_
 repeat' (first|refine stpb ?_|fail)
 refine aw_loopA (σ := Nat × List AL.Stmt) [0] [] (fun k => [(4,iv (k.1 : Int)),(3,.own 0 0 k.1 6)]) (fun k => [(0,some (flat cStmt k.2))]) (fun k => k.1 ≤ l.length ∧ k.2 = l.take k.1) (fun k => l.length - k.1) (0,[]) ⟨by omega,rfl⟩ ?_
 rintro ⟨k,xs⟩ ⟨hk,hxs⟩
 dsimp only at hk hxs ⊢
 have hck := cntL_at l k
 have hct := cnt_th l[k]!
 have hln : xs.length = k := by rw [hxs,List.length_take]; omega
 repeat' (first|(apply id_rw;first|(apply rx_buildSliceI (t := _);rfl;rfl;rfl;(exact (rfl:_=some [_,_,_,_,_,_]));rfl;rfl)|(apply rx_callE (k := 100);rfl;(apply copy_c <;> (omega));exact Pur.pf;rfl))|refine stpb ?_|(refine stp2 ?_ ?_ <;> intro hc hq <;> try (exfalso;omega))|fail)
 ·(refine ex3 (k + 1, _) (Le.renA [(0, 3)]) ?_ ?_)
  ·exact ⟨by dsimp only;omega,by dsimp only;rw [hxs,take_succB l k (by omega)]⟩
  ·dsimp only;omega
 ·have hel : l[k]!.el = [] := List.eq_nil_of_length_eq_zero (by omega)
  refine end_le (Le.stmtN (i := 3) l[k]! hln.symm (.inl rfl) (.inr ⟨rfl,hel⟩) rfl) ?_
  (refine ex3 (k + 1,_) (Le.renA [(0,3)]) ?_ ?_)
  ·exact ⟨by dsimp only;omega,by dsimp only;rw [hxs,take_succB l k (by omega)]⟩
  ·dsimp only;omega
 ·have hth : l[k]!.th = [] := List.eq_nil_of_length_eq_zero (by omega)
  refine end_le (Le.stmtN (i := 3) l[k]! hln.symm (.inr ⟨rfl,hth⟩) (.inl rfl) rfl) ?_
  (refine ex3 (k + 1,_) (Le.renA [(0,3)]) ?_ ?_)
  ·exact ⟨by dsimp only;omega,by dsimp only;rw [hxs,take_succB l k (by omega)]⟩
  ·dsimp only;omega
 ·have hth : l[k]!.th = [] := List.eq_nil_of_length_eq_zero (by omega)
  have hel : l[k]!.el = [] := List.eq_nil_of_length_eq_zero (by omega)
  refine end_le (Le.stmtN (i := 3) l[k]! hln.symm (.inr ⟨rfl,hth⟩) (.inr ⟨rfl,hel⟩) rfl) ?_
  (refine ex3 (k + 1,_) (Le.renA [(0,3)]) ?_ ?_)
  ·exact ⟨by dsimp only;omega,by dsimp only;rw [hxs,take_succB l k (by omega)]⟩
  ·dsimp only;omega
 ·have hke : k = l.length := by omega
  have hxl : xs = l := by rw [hxs,hke,List.take_length]
  subst hke
  refine rq_ret rfl ?_
  refine mc_ret () trivial ?_ ⟨sE ?_,trivial⟩
  ·rfl
  ·rw [hxl]
theorem rx_copyM {l:List AL.Stmt}{x0:Operand}(ha0:ev (lk tsl) x0 = some (sl cStmt l)) (hmc:MC Tryz.prog 100 [sl cStmt l] [] 0 (fun _:Unit => True) (fun _ => .own 0 0 l.length 6) (fun _ => [(0,some (flat cStmt l))])) (hM:Nat.ble (nidl + 1) big = true) (hN:Nat.blt d N = true){md':Md}[hmd:MdA md (rOs [x0] ++ []) (List.map Sum.inr (List.map Prod.fst ([(nidl,some (flat cStmt l))]:List (Nat × Option (List AV)))) ++ [.inl d]) md'] (kk:RW Tryz.prog N all Q md' rest ⟨(d,.own nidl 0 l.length 6) :: tsl,wrH hsl [(nidl,some (flat cStmt l))],nidl + 1,z0⟩):RW Tryz.prog N all Q md (⟨some d,.call ⟨.value (.func 100),#[x0],tys⟩,ty,pos,af,none⟩ :: rest) ⟨tsl,hsl,nidl,z0⟩:=by
 exact rx_mcallA (l := [x0]) [] 1 [(nidl,some (flat cStmt l))] hmc (avs := [sl cStmt l]) (by simp only [evL,ha0]) rfl hM hN (md' := md') (hmd := hmd) kk
theorem rx_copyOf {q:Prg}{x0:Operand}(ha0:ev (lk tsl) x0 = some (aPrg q)) (hmc:MC Tryz.prog 58 [aPrg q] [] 0 (fun _:Unit => True) (fun _ => .agg [.own 3 0 q.types.length 1,.own 4 0 q.body.length 6]) (fun _ => [(3,some (flat cI q.types)),(4,some (flat cStmt q.body))])) (hM:Nat.ble (nidl + 5) big = true) (hN:Nat.blt d N = true){md':Md}[hmd:MdA md (rOs [x0] ++ []) (List.map Sum.inr (List.map Prod.fst ([((nidl + 3),some (flat cI q.types)),((nidl + 4),some (flat cStmt q.body))]:List (Nat × Option (List AV)))) ++ [.inl d]) md'] (kk:RW Tryz.prog N all Q md' rest ⟨(d,.agg [.own (nidl + 3) 0 q.types.length 1,.own (nidl + 4) 0 q.body.length 6]) :: tsl,wrH hsl [((nidl + 3),some (flat cI q.types)),((nidl + 4),some (flat cStmt q.body))],nidl + 5,z0⟩):RW Tryz.prog N all Q md (⟨some d,.call ⟨.value (.func 58),#[x0],tys⟩,ty,pos,af,none⟩ :: rest) ⟨tsl,hsl,nidl,z0⟩:=by
 exact rx_mcallA (l := [x0]) [] 5 [((nidl + 3),some (flat cI q.types)),((nidl + 4),some (flat cStmt q.body))] hmc (avs := [aPrg q]) (by simp only [evL,ha0]) rfl hM hN (md' := md') (hmd := hmd) kk
theorem copyOf_c (q:Prg) (hs:cntL q.body ≤ 1048576) (ht:q.types.length ≤ 1048576):MC Tryz.prog 58 [aPrg q] [] 0 (fun _:Unit => True) (fun _ => .agg [.own 3 0 q.types.length 1,.own 4 0 q.body.length 6]) (fun _ => [(3,some (flat cI q.types)),(4,some (flat cStmt q.body))]):=by
 refine mc_start Tryz.func58 Tryz.ntmps58 ?_
 repeat' (first|(apply id_rw;(apply rx_copyM;rfl;(apply copyM_c;assumption);rfl;rfl))|refine stpb ?_|refine stpd ?_|fail)
 refine rq_ret rfl ?_
 refine mc_ret () trivial ?_ ⟨sE ?_,sE ?_,trivial⟩
 ·show AV.agg [AV.own 3 0 (0 + q.types.length) 1, AV.own 4 0 q.body.length 6] = _
  rw [Nat.zero_add]
 ·rfl
 ·rfl
theorem cntS_uOp (s:AL.Stmt) (a:Int):cntS (uOp s a) = cntS s := by simp [cntS_def,uOp,AL.Stmt.th,AL.Stmt.el]
theorem cntS_uX (s:AL.Stmt) (a:Int):cntS (uX s a) = cntS s := by simp [cntS_def,uX,AL.Stmt.th,AL.Stmt.el]
theorem cntS_uY (s:AL.Stmt) (a:Int):cntS (uY s a) = cntS s := by simp [cntS_def,uY,AL.Stmt.th,AL.Stmt.el]
theorem cntS_uN (s:AL.Stmt) (a:Int):cntS (uN s a) = cntS s := by simp [cntS_def,uN,AL.Stmt.th,AL.Stmt.el]
theorem cntL_set:∀ (xs:List AL.Stmt) (k:Nat) (y:AL.Stmt),k < xs.length → cntS y = cntS xs[k]! → cntL (xs.set k y) = cntL xs
 | [],k,y,h,_ => by simp at h
 | x :: xs,0,y,_,h => by simp only [List.set_cons_zero,cntL]; simp only [List.getElem!_cons_zero] at h;omega
 | x :: xs, k + 1, y, h, h2 => by
  simp only [List.set_cons_succ,cntL]
  rw [cntL_set xs k y (by simpa using h) (by rw [h2]; simp only [List.getElem!_cons_succ])]
theorem cntL_rep (s:AL.Stmt):∀ k,cntL (List.replicate k s) = k * cntS s
 | 0 => by simp [cntL]
 | k + 1 => by simp only [List.replicate_succ,cntL,cntL_rep s k,Nat.succ_mul]; omega
theorem cntL_del:∀ (xs:List AL.Stmt) (k:Nat),cntL (xs.take k ++ xs.drop (k + 1)) ≤ cntL xs
 | [],k => by simp [cntL]
 | x :: xs,0 => by simp [cntL]
 | x :: xs,k + 1 => by have := cntL_del xs k;simp only [List.take_succ_cons,List.drop_succ_cons,List.cons_append,cntL]; omega
theorem bnd_pos {T:Nat → Option AV}{x:Operand}{dd:Nat}{k:IntKind}{m:Int}(hx:ev T x = some (.v (.int k m))) (h:0 ≤ m):bndA T (some x) dd = some m.toNat:=by
 simp only [bndA,hx]; rw [if_pos h]
section
variable {P : Program} {N : Nat} {Q : Exit → AS → Prop} {all : Array Oper} {rest : List Oper} {ts : List (Nat × AV)} {hs : List (Nat × Option (List AV))} {n : Nat} {z0 : Lo} {md : Md}
variable {d : Nat} {ty : TypeId} {pos : String} {af : Array Edge}
theorem rx_sliceOh {t el:TypeId}{x:Operand}{hi:Option Operand}{i o m e h:Nat}[ht:SlT P t el] [he:SzT P el e] (hx:ev (lk ts) x = some (.own i o m e))
  (hh : bndA (lk ts) hi m = some h) (hb : h ≤ m) (hN : Nat.blt d N = true) {md' : Md} [hmd : MdA md (rO x ++ (rB none ++ rB hi)) [.inl d] md'] (kk : RW P N all Q md' rest ⟨(d,.own i o h e) :: ts,hs,n,z0⟩) :
  RW P N all Q md (⟨some d,.slice t x none hi none,ty,pos,af,none⟩ :: rest) ⟨ts,hs,n,z0⟩ :=
 rx_slice (m := m) (l := 0) (h := h) hx rfl rfl hh (by simp [sSl,hb]) hN (md' := md') (hmd := hmd) kk
end
theorem sC_ownD {hs:List (Nat × Option (List AV))}{xs:List AL.Stmt}{i k n:Nat}(hH:lkH hs i = some (flat cStmt xs)) (hn:n = xs.length - k):sCells (lkH hs) 6 (kAV (.own i (0 + k * 6) n 6)) = some (n,flat cStmt (xs.drop k)):=by
 show ((lkH hs i).bind fun cs => if n * 6 ≤ (cs.drop (0 + k * 6)).length then some (n,(cs.drop (0 + k * 6)).take (n * 6)) else none) = _
 rw [hH,Option.bind_some,Nat.zero_add]
 have h1 : (flat cStmt xs).length = xs.length * 6 := flat_length cStmt xs
 have h3 : (flat cStmt xs).drop (k * 6) = flat cStmt (xs.drop k) := by
  have h4 : flat cStmt xs = flat cStmt (xs.take k) ++ flat cStmt (xs.drop k) := by rw [flat_append,List.take_append_drop]
  have h5 : (flat cStmt (xs.take k)).length = (xs.take k).length * 6 := flat_length cStmt _
  by_cases hk : k ≤ xs.length
  ·rw [h4,← show (flat cStmt (xs.take k)).length = k * 6 from by rw [h5,List.length_take]; congr 1;omega,List.drop_left]
  ·rw [List.drop_of_length_le (by omega),List.drop_of_length_le (by omega)]; rfl
 rw [h3]
 have h2 : (flat cStmt (xs.drop k)).length = (xs.length - k) * 6 := by rw [flat_length cStmt (e := 6),List.length_drop]
 rw [if_pos (by omega),List.take_of_length_le (by omega)]
theorem app_del {xs ys:List AL.Stmt}{k:Nat}(hk:k ≤ xs.length):((flat cStmt xs).drop 0).take (k * 6) ++ flat cStmt ys = flat cStmt (xs.take k ++ ys):=by
 rw [List.drop_zero,flat_take cStmt (e := 6),flat_append]
theorem mutate_c (bs:List UInt8) (p:Nat) (q:Prg) (hb:bs.length ≤ 2000) (hp:p ≤ 900000) (hs:cntL q.body ≤ 10000) (ht:q.types.length ≤ 10000):MC Tryz.prog 54 [.optr 0 0,aPrg q] [(0,some (cRd bs p))] 1 (fun x:Prg × Nat => cntL x.1.body ≤ 32 * cntL q.body ∧ x.1.types.length ≤ q.types.length + 1 ∧ x.2 ≤ p + 3) (fun x => aPrg x.1) (fun x => [(0,some (cRd bs x.2))]):=by
 have hlen := cntL_len q.body
 have h0 := pickF_bd bs p (q.body.length : Int)
 refine mc_start Tryz.func54 Tryz.ntmps54 ?_
 repeat' (first|(apply id_rw;(first|(apply rx_pick;rfl;rfl;(rfl);(apply pick_c <;> (first|assumption|omega));rfl;rfl)|(apply rx_numO;rfl;rfl;rfl;rfl;infer_instance;rfl;(rfl);assumption;omega;(decide);(decide);rfl;rfl)|(apply rx_copyOf;rfl;(apply copyOf_c <;> (omega));rfl;rfl)))|refine stpb ?_|(refine stp2 ?_ ?_ <;> intro hc hq <;> try (exfalso;omega))|refine stpd ?_|fail)
 ·refine rq_le (Le.frzC (j := 2) (i := 6) [] rfl rfl (by decide)) ?_
  refine rq_le (Le.frzC (j := 2) (i := 7) [.imm _ _] rfl rfl (by decide)) ?_
  refine rq_ret rfl ?_
  refine mc_ret ((⟨q.types,q.body⟩ : Prg),p) ?_ ?_ ⟨sE ?_,trivial⟩
  ·exact ⟨by dsimp only;omega,by dsimp only;omega,by dsimp only;omega⟩
  ·rfl
  ·rfl
 ·refine rq_le (Le.frzC (j := 2) (i := 6) [] rfl rfl (by decide)) ?_
  refine rq_le (Le.frzC (j := 2) (i := 7) [.imm _ _] rfl rfl (by decide)) ?_
  refine rq_ret rfl ?_
  refine mc_ret ((⟨q.types,q.body.set (pickF bs p (q.body.length : Int)).toNat (uOp q.body[(pickF bs p (q.body.length : Int)).toNat]! (numF bs (p + 1 + 1) [0,11,1,3,8]))⟩ : Prg),p + 1 + 1 + 1) ?_ ?_ ⟨sE ?_,trivial⟩
  ·refine ⟨?_,by dsimp only;omega,by dsimp only;omega⟩; dsimp only;rw [cntL_set q.body (pickF bs p (q.body.length : Int)).toNat _ (by omega) (by rw [cntS_uOp])]; omega
  ·show _ = AV.agg [_,AV.imm (List.length (q.body.set _ _)) _]; rw [List.length_set]; rfl
  ·rfl
 ·refine rq_le (Le.frzC (j := 2) (i := 6) [] rfl rfl (by decide)) ?_
  refine rq_le (Le.frzC (j := 2) (i := 7) [.imm _ _] rfl rfl (by decide)) ?_
  refine rq_ret rfl ?_
  refine mc_ret ((⟨q.types,q.body.set (pickF bs p (q.body.length : Int)).toNat (uX q.body[(pickF bs p (q.body.length : Int)).toNat]! (numF bs (p + 1 + 1) [6,-1,0,1]))⟩ : Prg),p + 1 + 1 + 1) ?_ ?_ ⟨sE ?_,trivial⟩
  ·refine ⟨?_,by dsimp only;omega,by dsimp only;omega⟩; dsimp only;rw [cntL_set q.body (pickF bs p (q.body.length : Int)).toNat _ (by omega) (by rw [cntS_uX])]; omega
  ·show _ = AV.agg [_,AV.imm (List.length (q.body.set _ _)) _]; rw [List.length_set]; rfl
  ·rfl
 ·refine rq_le (Le.frzC (j := 2) (i := 6) [] rfl rfl (by decide)) ?_
  refine rq_le (Le.frzC (j := 2) (i := 7) [.imm _ _] rfl rfl (by decide)) ?_
  refine rq_ret rfl ?_
  refine mc_ret ((⟨q.types,q.body.set (pickF bs p (q.body.length : Int)).toNat (uY q.body[(pickF bs p (q.body.length : Int)).toNat]! (numF bs (p + 1 + 1) [6,-1,0,1]))⟩ : Prg),p + 1 + 1 + 1) ?_ ?_ ⟨sE ?_,trivial⟩
  ·refine ⟨?_,by dsimp only;omega,by dsimp only;omega⟩; dsimp only;rw [cntL_set q.body (pickF bs p (q.body.length : Int)).toNat _ (by omega) (by rw [cntS_uY])]; omega
  ·show _ = AV.agg [_,AV.imm (List.length (q.body.set _ _)) _]; rw [List.length_set]; rfl
  ·rfl
 ·refine rq_le (Le.frzC (j := 2) (i := 6) [] rfl rfl (by decide)) ?_
  refine rq_le (Le.frzC (j := 2) (i := 7) [.imm _ _] rfl rfl (by decide)) ?_
  refine rq_ret rfl ?_
  refine mc_ret ((⟨q.types,q.body.set (pickF bs p (q.body.length : Int)).toNat (uN q.body[(pickF bs p (q.body.length : Int)).toNat]! (numF bs (p + 1 + 1) [10,-1,5]))⟩ : Prg),p + 1 + 1 + 1) ?_ ?_ ⟨sE ?_,trivial⟩
  ·refine ⟨?_,by dsimp only;omega,by dsimp only;omega⟩; dsimp only;rw [cntL_set q.body (pickF bs p (q.body.length : Int)).toNat _ (by omega) (by rw [cntS_uN])]; omega
  ·show _ = AV.agg [_,AV.imm (List.length (q.body.set _ _)) _]; rw [List.length_set]; rfl
  ·rfl
 ·refine rq_le (Le.frzC (j := 2) (i := 11) [] rfl rfl (by decide)) ?_
  refine rq_le (Le.frzC (j := 2) (i := 7) [.imm _ _] rfl rfl (by decide)) ?_
  refine rq_ret rfl ?_
  refine mc_ret ((⟨q.types ++ [numF bs (p + 1 + 1) [1,5,0,4]],q.body⟩ : Prg),p + 1 + 1 + 1) ?_ ?_ ⟨sE ?_,trivial⟩
  ·exact ⟨by dsimp only;omega,by simp,by dsimp only;omega⟩
  ·show _ = AV.agg [AV.imm (List.length (q.types ++ [_])) _,_]; rw [List.length_append]; rfl
  ·rfl
 ·refine aw_loopA (σ := Nat × List AL.Stmt × Nat) [4, 5] [6, 2, 0] (fun k => [(7, iv (k.1 : Int))]) (fun k => [(7, some (flat cStmt k.2.1)), (8, some [.own 6 0 q.types.length 1, .own 7 0 k.2.2 6])]) (fun k => k.1 ≤ 31 ∧ k.2.1 = q.body ++ List.replicate k.1 q.body[0]! ∧ k.2.2 = k.2.1.length) (fun k => 31 - k.1) (0, q.body, q.body.length) ⟨by omega, by simp, rfl⟩ ?_
  rintro ⟨k,xs,m⟩ ⟨hk,hxs,hm⟩
  dsimp only at hk hxs hm ⊢
  have hln : 0 < xs.length := by rw [hxs,List.length_append]; omega
  have hl2 : xs.length = q.body.length + k := by rw [hxs,List.length_append,List.length_replicate]
  repeat' (first|refine stpb ?_|(refine stp2 ?_ ?_ <;> intro hc hq <;> try (exfalso;omega))|refine stpd ?_|fail)
  ·(refine ex3 (k + 1, _, _) (Le.renA [(7, 10), (8, 8), (6, 6), (2, 2)]) ?_ ?_)
   ·dsimp only
    refine ⟨by omega,?_,by simp [hm]⟩
    have e0 : xs[Int.toNat 0]! = q.body[0]! := by
     show xs[0]! = _
     rw [hxs,getElem!_pos _ _ (by rw [List.length_append]; omega),List.getElem_append_left (by omega),getElem!_pos _ _ (by omega)]
    rw [e0,hxs,List.replicate_succ',List.append_assoc]
   ·dsimp only;omega
  ·have hc0 : cntS q.body[0]! ≤ cntL q.body := cntL_at q.body 0 (by omega)
   have hc1 : cntL xs = cntL q.body + k * cntS q.body[0]! := by rw [hxs,cntL_append,cntL_rep]
   have hc2 : k * cntS q.body[0]! ≤ 31 * cntL q.body := Nat.mul_le_mul hk hc0
   subst hm
   refine rq_le (Le.frzC (j := 2) (i := 6) [] rfl rfl (by decide)) ?_
   refine rq_le (Le.frzC (j := 2) (i := 7) [.imm _ _] rfl rfl (by decide)) ?_
   refine rq_ret rfl ?_
   refine mc_ret ((⟨q.types,xs⟩ : Prg),p + 1 + 1) ?_ ?_ ⟨sE ?_,trivial⟩
   ·exact ⟨by dsimp only;omega,by dsimp only;omega,by dsimp only;omega⟩
   ·rfl
   ·rfl
 ·have hK : (pickF bs p (q.body.length : Int) + 1).toNat = (pickF bs p (q.body.length : Int)).toNat + 1 := by omega
  repeat' (first|(apply id_rw;first|(apply rx_sliceOh;rfl;exact bnd_pos rfl (by omega);omega;rfl)|(apply rx_sliceOw;rfl;exact bnd_pos rfl (by omega);omega;rfl)|(apply rx_append;rfl;rfl;rfl;rfl;rfl;(rw [flat_length]; omega);exact sC_ownD rfl (by omega);omega;omega;exact app_del (by omega);rfl;rfl))|refine stpb ?_|fail)
  refine rq_le (Le.frzC (j := 2) (i := 6) [] rfl rfl (by decide)) ?_
  refine rq_le (Le.frzC (j := 2) (i := 9) [.imm _ _] rfl rfl (by decide)) ?_
  refine rq_ret rfl ?_
  refine mc_ret ((⟨q.types,q.body.take (pickF bs p (q.body.length : Int)).toNat ++ q.body.drop (pickF bs p (q.body.length : Int) + 1).toNat⟩ : Prg),p + 1 + 1) ?_ ?_ ⟨sE ?_,trivial⟩
  ·refine ⟨?_, by dsimp only; omega, by dsimp only; omega⟩
   dsimp only
   rw [hK]
   have := cntL_del q.body (pickF bs p (q.body.length : Int)).toNat
   omega
  ·show AV.agg [_, AV.imm _ _] = AV.agg [_, AV.imm (List.length (_ ++ _)) _]
   rw [List.length_append,List.length_take,List.length_drop,Nat.min_eq_left (by omega)]
  ·rfl
 ·refine rq_le (Le.frzC (j := 2) (i := 6) [] rfl rfl (by decide)) ?_
  refine rq_le (Le.frzC (j := 2) (i := 7) [.imm _ _] rfl rfl (by decide)) ?_
  refine rq_ret rfl ?_
  refine mc_ret (q,p + 1 + 1) ⟨by dsimp only;omega,by dsimp only;omega,by dsimp only;omega⟩ rfl ⟨sE ?_,trivial⟩
  ·rfl
def atF (s : ByteArray) (i : Int) (w : ByteArray) : Bool := decide (0 ≤ i) && (decide (i + w.size ≤ s.size) && ((s.extract i.toNat (i + w.size).toNat).toList == w.toList))
def chrF (lo hi : Int) (s : ByteArray) (i : Int) : Int := if i < 0 then -1 else if (s.size : Int) ≤ i then -1 else if ((s[i.toNat]!).toNat : Int) < lo then -1 else if hi < ((s[i.toNat]!).toNat : Int) then -1 else ((s[i.toNat]!).toNat : Int) - lo
theorem l1At_c (s:ByteArray) (i:Int) (w:ByteArray) (hs:s.size ≤ 1048576) (hw:w.size ≤ 1048576) (hi:i ≤ 1048576):PC Tryz.prog 210 [sv s,iv i,sv w] (fun r => r = bv (atF s i w)):=by
 refine pc_start Tryz.func210 Tryz.ntmps210 ?_
 repeat' (first|(apply id_rw;first|(apply rx_sbin;rfl;rfl;(rfl);rfl)|(apply rx_sliceS;rfl;exact bnd_pos rfl (by omega);exact bnd_pos rfl (by omega);omega;rfl))|refine stpb ?_|(refine stp3 ?_ ?_ <;> intro hg hq <;> try (exfalso;omega))|refine stpr ?_|fail)
 all_goals (refine ⟨?_,rfl⟩; simp only [oneOf,AV.v.injEq,Value.bool.injEq,Value.int.injEq,true_and])
 ·unfold atF
  rw [decide_eq_true (by omega),decide_eq_true (by omega)]; rfl
 ·unfold atF
  rw [decide_eq_true (p := 0 ≤ i) (by omega),decide_eq_false (by omega)]; rfl
 ·unfold atF
  rw [decide_eq_false (by omega)]; rfl
theorem l1Var_c (s:ByteArray) (i:Int) (hs:s.size ≤ 1048576):PC Tryz.prog 266 [sv s,iv i] (fun r => r = iv (chrF 97 122 s i)):=by
 have hb0 : ((s[i.toNat]!).toNat : Int) ≤ 255 := by have := (s[i.toNat]!).toNat_lt;omega
 refine pc_start Tryz.func266 Tryz.ntmps266 ?_
 repeat' (first|(apply id_rw;first|(apply rx_indexS;rfl;rfl;omega;rfl)|(apply rx_subU;rfl;rfl;omega;rfl))|refine stpb ?_|(refine stp2 ?_ ?_ <;> intro hc hq <;> try (exfalso;omega))|(refine stp3 ?_ ?_ <;> intro hg hq <;> try (exfalso;omega))|refine stpr ?_|fail)
 all_goals (refine ⟨?_,rfl⟩; simp only [oneOf,AV.v.injEq,Value.bool.injEq,Value.int.injEq,true_and])
 all_goals (unfold chrF;repeat' split)
 all_goals (first|rfl|omega)
theorem l1Digit_c (s:ByteArray) (i:Int) (hs:s.size ≤ 1048576):PC Tryz.prog 268 [sv s,iv i] (fun r => r = iv (chrF 48 57 s i)):=by
 have hb0 : ((s[i.toNat]!).toNat : Int) ≤ 255 := by have := (s[i.toNat]!).toNat_lt;omega
 refine pc_start Tryz.func268 Tryz.ntmps268 ?_
 repeat' (first|(apply id_rw;first|(apply rx_indexS;rfl;rfl;omega;rfl)|(apply rx_subU;rfl;rfl;omega;rfl))|refine stpb ?_|(refine stp2 ?_ ?_ <;> intro hc hq <;> try (exfalso;omega))|(refine stp3 ?_ ?_ <;> intro hg hq <;> try (exfalso;omega))|refine stpr ?_|fail)
 all_goals (refine ⟨?_,rfl⟩; simp only [oneOf,AV.v.injEq,Value.bool.injEq,Value.int.injEq,true_and])
 all_goals (unfold chrF;repeat' split)
 all_goals (first|rfl|omega)
def QP (s : ByteArray) (i : Int) (r : AV) : Prop := ∃ (x : AL.Stmt) (nx : Int),r = .tup [aStmt x,iv nx] ∧ ((nx = -1 ∧ (cntS x : Int) ≤ s.size + 1) ∨ (i < nx ∧ nx ≤ s.size + 3 ∧ (cntS x : Int) ≤ nx - i))
def QB (s : ByteArray) (i : Int) (r : AV) : Prop := ∃ (l : List AL.Stmt) (nx : Int),r = .tup [sl cStmt l,iv nx] ∧ ((nx = -1 ∧ l = []) ∨ (0 ≤ i ∧ i + 2 ≤ nx ∧ nx ≤ s.size ∧ (cntL l : Int) ≤ nx - i))
def QL (s : ByteArray) (i : Int) (r : AV) : Prop := ∃ (l : List AL.Stmt) (nx : Int),r = .tup [sl cStmt l,iv nx] ∧ ((nx = -1 ∧ l = []) ∨ (i ≤ nx ∧ nx ≤ s.size ∧ (cntL l : Int) ≤ nx - i))
theorem atF_bd {s w:ByteArray}{i:Int}(h:atF s i w = true):0 ≤ i ∧ i + w.size ≤ s.size:=by
 unfold atF at h;simp only [Bool.and_eq_true,decide_eq_true_eq] at h;exact ⟨h.1,h.2.1⟩
theorem qp0 {s:ByteArray}{i op x y n nx:Int}(h:nx = -1 ∨ (i < nx ∧ nx ≤ s.size + 3)):QP s i (.tup [.agg [iv op,iv x,iv y,iv n,.imm 0 [],.imm 0 []],iv nx]) :=
 ⟨.mk op x y n [] [],nx,rfl,by simp only [cntS,cntL]; omega⟩
theorem qp1 {s:ByteArray}{i op x y n nx:Int}{th:List AL.Stmt}(h:(nx = -1 ∧ (cntL th:Int) ≤ s.size) ∨ (i < nx ∧ nx ≤ s.size + 3 ∧ (cntL th:Int) + 1 ≤ nx - i)):QP s i (.tup [.agg [iv op,iv x,iv y,iv n,sl cStmt th,.imm 0 []],iv nx]) :=
 ⟨.mk op x y n th [],nx,rfl,by simp only [cntS,cntL]; omega⟩
theorem qp2 {s:ByteArray}{i op x y n nx:Int}{th el:List AL.Stmt}(h:(nx = -1 ∧ (cntL th:Int) + cntL el ≤ s.size) ∨ (i < nx ∧ nx ≤ s.size + 3 ∧ (cntL th:Int) + cntL el + 1 ≤ nx - i)):QP s i (.tup [.agg [iv op,iv x,iv y,iv n,sl cStmt th,sl cStmt el],iv nx]) :=
 ⟨.mk op x y n th el,nx,rfl,by simp only [cntS]; omega⟩
theorem QP.pur {s:ByteArray}{i:Int}{r:AV}(h:QP s i r):r.pur = true := by obtain ⟨x,nx,rfl,_⟩ := h;exact Pur.pf
theorem QB.pur {s:ByteArray}{i:Int}{r:AV}(h:QB s i r):r.pur = true := by obtain ⟨x,nx,rfl,_⟩ := h;exact Pur.pf
theorem QL.pur {s:ByteArray}{i:Int}{r:AV}(h:QL s i r):r.pur = true := by obtain ⟨x,nx,rfl,_⟩ := h;exact Pur.pf
theorem rq_q {P:Program}{s:AS}{res:Array ResultVar}{q:AV → Prop}{l:List AV}(hQ:∀ r,q r → r.pur = true) (hr:resL P (lk s.ts) (lkH s.hs) res.toList = some l) (h:q (oneOf l)):retQ P res (fun r _ => q r ∧ r.pur = true) .ret s := rq_ret hr ⟨h,hQ _ h⟩
theorem parse_c0 (s:ByteArray) (i dp:Int) (hs:s.size ≤ 100000) (hi0:0 ≤ i) (hi:i ≤ s.size) (hd0:0 ≤ dp) (hd:dp ≤ 10) (braces_ih:∀ j dj:Int,dj = dp - 1 → -1 ≤ j → j ≤ s.size + 10 → PC Tryz.prog 267 [sv s,iv j,iv dj] (QB s j)):PC Tryz.prog 211 [sv s,iv i,iv dp] (QP s i):=by
 have h1 : atF s i ⟨#[100,114,111,112,32]⟩ = true → i + 5 ≤ s.size := fun h => (atF_bd h).2
 have h2 : atF s i ⟨#[108,111,111,112,123]⟩ = true → i + 5 ≤ s.size := fun h => (atF_bd h).2
 have h3 : atF s i ⟨#[105,102,123]⟩ = true → i + 3 ≤ s.size := fun h => (atF_bd h).2
 have h4 : atF s i ⟨#[42]⟩ = true → i + 1 ≤ s.size := fun h => (atF_bd h).2
 have h5 : atF s (i + 1) ⟨#[61]⟩ = true → i + 1 + 1 ≤ s.size := fun h => (atF_bd h).2
 have h6 : atF s (i + 2) ⟨#[98,111,120,32]⟩ = true → i + 2 + 4 ≤ s.size := fun h => (atF_bd h).2
 have h7 : atF s (i + 2) ⟨#[38,109,117,116,32]⟩ = true → i + 2 + 5 ≤ s.size := fun h => (atF_bd h).2
 refine pc_start Tryz.func211 Tryz.ntmps211 ?_
 repeat' (first|(apply id_rw;(first|(apply rx_callE (k := 210);rfl;(apply l1At_c <;> (first|omega|decide));(rfl);rfl)|(apply rx_callE (k := 266);rfl;(apply l1Var_c <;> (omega));(rfl);rfl)|(apply rx_call (k := 267);rfl;(apply braces_ih <;> (omega));(rfl);rfl;(rintro _ ⟨l,nx,rfl,hql⟩ _))|(apply rx_callE (k := 268);rfl;(apply l1Digit_c <;> (omega));(rfl);rfl)))|refine stpb ?_|(refine stp2 ?_ ?_ <;> intro hc hq <;> try (exfalso;omega))|(refine stp3 ?_ ?_ <;> intro hg hq <;> try (exfalso;omega))|fail)
 all_goals refine rq_q (fun _ => QP.pur) (l := [.agg [_,_,_,_,_,_],_]) rfl ?_
 all_goals (try have b1 := h1 (by assumption))
 all_goals (try have b2 := h2 (by assumption))
 all_goals (try have b3 := h3 (by assumption))
 all_goals (try have b4 := h4 (by assumption))
 all_goals (try have b5 := h5 (by assumption))
 all_goals (try have b6 := h6 (by assumption))
 all_goals (try have b7 := h7 (by assumption))
 all_goals clear h1 h2 h3 h4 h5 h6 h7
 all_goals first
  | (refine qp0 ?_; omega)
  | skip
 ·refine qp1 (th := l) ?_
  rcases hql with ⟨h8,h9⟩|hql
  ·rw [h9]; simp only [cntL]; omega
  ·omega
 ·rename_i l1 nx1 hql1 hpu1 hpu2
  refine qp2 (th := l1) (el := l) ?_
  rcases hql1 with ⟨h8,h9⟩|hql1 <;> rcases hql with ⟨h10,h11⟩|hql
  ·rw [h9,h11]; simp only [cntL]; omega
  ·omega
  ·rw [h11]; simp only [cntL]; omega
  ·omega
theorem braces_c0 (s:ByteArray) (i dp:Int) (hs:s.size ≤ 100000) (hi0:-1 ≤ i) (hi:i ≤ s.size + 10) (hd0:-1 ≤ dp) (hd:dp ≤ 10) (list_ih:∀ j dj:Int,0 ≤ dp → dj = dp → 0 ≤ j → j ≤ s.size → PC Tryz.prog 145 [sv s,iv j,iv dj] (QL s j)):PC Tryz.prog 267 [sv s,iv i,iv dp] (QB s i):=by
 have h1 : atF s i ⟨#[123]⟩ = true → 0 ≤ i ∧ i + 1 ≤ s.size := fun h => atF_bd h
 refine pc_start Tryz.func267 Tryz.ntmps267 ?_
 repeat' (first|(apply id_rw;(apply rx_callE (k := 210);rfl;(apply l1At_c <;> (first|omega|decide));(rfl);rfl))|refine stpb ?_|(refine stp2 ?_ ?_ <;> intro hc hq <;> try (exfalso;omega))|(refine stp3 ?_ ?_ <;> intro hg hq <;> try (exfalso;omega))|fail)
 ·refine rq_le (Le.nilImm (d := 6) rfl) ?_
  exact rq_q (fun _ => QB.pur) (l := [.imm 0 [],iv (-1)]) rfl ⟨[],-1,rfl,.inl ⟨rfl,rfl⟩⟩
 ·have b1 := h1 (by assumption)
  repeat' (first|(apply id_rw;(first|(apply rx_call (k := 145);rfl;(apply list_ih <;> (first|assumption|omega));(rfl);rfl;(rintro _ ⟨l,nx,rfl,hql⟩ _))|(apply rx_callE (k := 210);rfl;(apply l1At_c <;> (first|omega|decide));(rfl);rfl)))|refine stpb ?_|(refine stp2 ?_ ?_ <;> intro hc hq <;> try (exfalso;omega))|fail)
  ·refine rq_le (Le.nilImm (d := 6) rfl) ?_
   exact rq_q (fun _ => QB.pur) (l := [.imm 0 [],iv (-1)]) rfl ⟨[],-1,rfl,.inl ⟨rfl,rfl⟩⟩
  ·have b2 : 0 ≤ nx ∧ nx + 1 ≤ s.size := atF_bd (w := ⟨#[125]⟩) (by assumption)
   exact rq_q (fun _ => QB.pur) (l := [sl cStmt l,iv (nx + 1)]) rfl ⟨l,nx + 1,rfl,by omega⟩
 ·refine rq_le (Le.nilImm (d := 6) rfl) ?_
  exact rq_q (fun _ => QB.pur) (l := [.imm 0 [],iv (-1)]) rfl ⟨[],-1,rfl,.inl ⟨rfl,rfl⟩⟩
theorem list_c0 (s:ByteArray) (i dp:Int) (hs:s.size ≤ 100000) (hi0:0 ≤ i) (hi:i ≤ s.size) (hd0:0 ≤ dp) (hd:dp ≤ 10) (parse_ih:∀ j dj:Int,dj = dp → 0 ≤ j → j ≤ s.size → PC Tryz.prog 211 [sv s,iv j,iv dj] (QP s j)):PC Tryz.prog 145 [sv s,iv i,iv dp] (QL s i):=by
 refine pc_start Tryz.func145 Tryz.ntmps145 ?_
 repeat' (first|(apply id_rw;(apply rx_callE (k := 210);rfl;(apply l1At_c <;> (first|omega|decide));(rfl);rfl))|refine stpb ?_|(refine stp2 ?_ ?_ <;> intro hc hq <;> try (exfalso;omega))|(refine stp3 ?_ ?_ <;> intro hg hq <;> try (exfalso;omega))|fail)
 rotate_left 1
 ·refine aw_loopA (σ := Int × List AL.Stmt × Nat) [0, 2] [] (fun k => [(1, iv k.1), (8, .own 0 0 k.2.2 6)]) (fun k => [(0, some (flat cStmt k.2.1))]) (fun k => i ≤ k.1 ∧ k.1 ≤ s.size ∧ k.2.2 = k.2.1.length ∧ (cntL k.2.1 : Int) ≤ k.1 - i) (fun k => (s.size - k.1).toNat) (i, [], 0) ⟨by omega, by omega, rfl, by simp [cntL]⟩ ?_
  rintro ⟨k,xs,m⟩ ⟨hk0,hk,hm,hc⟩
  dsimp only at hk0 hk hm hc ⊢
  have hln := cntL_len xs
  repeat' (first|(apply id_rw;first|(apply rx_buildSliceI (t := _);rfl;rfl;rfl;(exact (rfl:_=some [_,_,_,_,_,_]));rfl;rfl)|(first|(apply rx_callE (k := 210);rfl;(apply l1At_c <;> (first|omega|decide));(rfl);rfl)|(apply rx_call (k := 211);rfl;(apply parse_ih <;> (first|assumption|omega));(rfl);rfl;(rintro _ ⟨x,nx,rfl,hqx⟩ _))))|refine stpb ?_|(refine stp2 ?_ ?_ <;> intro hc hq <;> try (exfalso;omega))|(refine stp3 ?_ ?_ <;> intro hg hq <;> try (exfalso;omega))|fail)
  ·refine rq_le (Le.nilImm (d := 6) rfl) ?_
   exact rq_q (fun _ => QL.pur) (l := [.imm 0 [],iv (-1)]) rfl ⟨[],-1,rfl,.inl ⟨rfl,rfl⟩⟩
  ·refine rq_le (Le.frzD (d := 6) (i := 3) rfl rfl) ?_
   refine rq_q (fun _ => QL.pur) (l := [.imm (m + 1) (flat cStmt (xs ++ [x])),iv nx]) rfl ⟨xs ++ [x],nx,?_,?_⟩
   ·show AV.tup [AV.imm (m + 1) _, _] = AV.tup [AV.imm (List.length (xs ++ [x])) _, _]
    rw [List.length_append,hm]; rfl
   ·rw [cntL_append]; simp only [cntL]; omega
  ·have b2 : 0 ≤ nx ∧ nx + 1 ≤ s.size := atF_bd (w := ⟨#[59]⟩) (by assumption)
   (refine ex3 (nx + 1,xs ++ [x],m + 1) (Le.renA [(0,3)]) ?_ ?_)
   ·dsimp only
    refine ⟨by omega,by omega,by simp [hm],?_⟩
    rw [cntL_append]; simp only [cntL]; omega
   ·dsimp only;omega
  ·refine rq_le (Le.nilImm (d := 6) rfl) ?_
   exact rq_q (fun _ => QL.pur) (l := [.imm 0 [],iv (-1)]) rfl ⟨[],-1,rfl,.inl ⟨rfl,rfl⟩⟩
 ·refine rq_le (Le.frzD (d := 6) (i := 0) rfl rfl) ?_
  exact rq_q (fun _ => QL.pur) (l := [.imm 0 [],iv i]) rfl ⟨[],i,rfl,by simp only [cntL]; omega⟩
 ·refine rq_le (Le.frzD (d := 6) (i := 0) rfl rfl) ?_
  exact rq_q (fun _ => QL.pur) (l := [.imm 0 [],iv i]) rfl ⟨[],i,rfl,by simp only [cntL]; omega⟩
theorem list_all (s:ByteArray) (hs:s.size ≤ 100000):∀ n:Nat,n ≤ 10 → (∀ j:Int,-1 ≤ j → j ≤ s.size + 10 → PC Tryz.prog 267 [sv s,iv j,iv ((n:Int) - 1)] (QB s j)) ∧ (∀ j:Int,0 ≤ j → j ≤ s.size → PC Tryz.prog 145 [sv s,iv j,iv (n:Int)] (QL s j))
 | 0, hn => by
  have hB : ∀ j : Int, -1 ≤ j → j ≤ s.size + 10 → PC Tryz.prog 267 [sv s, iv j, iv (((0 : Nat) : Int) - 1)] (QB s j) :=
   fun j h0 h1 => braces_c0 s j (((0 : Nat) : Int) - 1) hs h0 h1 (by omega) (by omega) (fun _ _ h => by omega)
  have hP : ∀ j : Int, 0 ≤ j → j ≤ s.size → PC Tryz.prog 211 [sv s, iv j, iv ((0 : Nat) : Int)] (QP s j) :=
   fun j h0 h1 => parse_c0 s j _ hs h0 h1 (by omega) (by omega) (fun k dj h2 h3 h4 => by subst h2;exact hB k h3 h4)
  exact ⟨hB,fun j h0 h1 => list_c0 s j _ hs h0 h1 (by omega) (by omega) (fun k dj h2 h3 h4 => by subst h2;exact hP k h3 h4)⟩
 | n + 1, hn => by
  have ih := list_all s hs n (by omega)
  have e : (((n + 1 : Nat) : Int) - 1) = (n : Int) := by omega
  have hB : ∀ j : Int, -1 ≤ j → j ≤ s.size + 10 → PC Tryz.prog 267 [sv s, iv j, iv (((n + 1 : Nat) : Int) - 1)] (QB s j) :=
   fun j h0 h1 => braces_c0 s j _ hs h0 h1 (by omega) (by omega) (fun k dj h2 h3 h4 h5 => by rw [e] at h3;subst h3;exact ih.2 k h4 h5)
  have hP : ∀ j : Int, 0 ≤ j → j ≤ s.size → PC Tryz.prog 211 [sv s, iv j, iv ((n + 1 : Nat) : Int)] (QP s j) :=
   fun j h0 h1 => parse_c0 s j _ hs h0 h1 (by omega) (by omega) (fun k dj h2 h3 h4 => by subst h2;exact hB k h3 h4)
  exact ⟨hB,fun j h0 h1 => list_c0 s j _ hs h0 h1 (by omega) (by omega) (fun k dj h2 h3 h4 => by subst h2;exact hP k h3 h4)⟩
theorem list4_c (s:ByteArray) (i:Int) (hs:s.size ≤ 100000) (hi0:0 ≤ i) (hi:i ≤ s.size):PC Tryz.prog 145 [sv s,iv i,iv 4] (QL s i) := (list_all s hs 4 (by omega)).2 i hi0 hi
end Go.Proofs.YtjnhlgpbojggnaaGreatDoor
