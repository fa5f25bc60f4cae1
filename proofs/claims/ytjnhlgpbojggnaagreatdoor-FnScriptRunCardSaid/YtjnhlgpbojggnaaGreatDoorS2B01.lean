/-
 A part of the proofs over this program: rules and contracts of its functions (the contracts).
-/
import Derived.Test.YtjnhlgpbojggnaaGreatDoorS2A08
import Derived.Test.YtjnhlgpbojggnaaGreatDoorRows
set_option linter.unusedVariables false
set_option linter.unusedSimpArgs false
set_option maxHeartbeats 8000000
set_option maxRecDepth 4000
attribute [local irreducible] Go.AL.RW Go.AL.AW Go.AL.Stop
namespace Go.Proofs.YtjnhlgpbojggnaaGreatDoor
open Go.AL
theorem within_c (a b c:Int):PC Tryz.prog 35 [iv a,iv b,iv c] (fun r => r = bv (decide (b ≤ a) && decide (a ≤ c))):=by
 refine pc_start Tryz.func35 Tryz.ntmps35 ?_
 repeat' (first|refine stpb ?_|(refine stp3 ?_ ?_ <;> intro hg hq <;> try (exfalso;omega))|refine stpr ?_|fail)
 all_goals (refine ⟨?_,rfl⟩; simp only [oneOf,AV.v.injEq,Value.bool.injEq,Value.int.injEq,true_and])
 all_goals grind
theorem isRefI_c (t:Int):PC Tryz.prog 265 [iv t] (fun r => r = bv (isRef t)):=by
 refine pc_start Tryz.func265 Tryz.ntmps265 ?_
 repeat' (first|refine stpb ?_|(refine stp3 ?_ ?_ <;> intro hg hq <;> try (exfalso;omega))|refine stpr ?_|fail)
 all_goals (refine ⟨?_,rfl⟩; simp only [oneOf,AV.v.injEq,Value.bool.injEq,Value.int.injEq,true_and])
 all_goals grind [isRef]
theorem isHolder_c (t:Int):PC Tryz.prog 209 [iv t] (fun r => r = bv (decide (t = 2) || isRef t)):=by
 refine pc_start Tryz.func209 Tryz.ntmps209 ?_
 repeat' (first|(apply id_rw;(apply rx_callE (k := 265);rfl;(apply isRefI_c);(rfl);rfl))|refine stpb ?_|(refine stp3 ?_ ?_ <;> intro hg hq <;> try (exfalso;omega))|refine stpr ?_|fail)
 all_goals (refine ⟨?_,rfl⟩; simp only [oneOf,AV.v.injEq,Value.bool.injEq,Value.int.injEq,true_and])
 all_goals grind
theorem isBranch_c (t:Int):PC Tryz.prog 143 [iv t] (fun r => r = bv (decide (t = 9) || decide (t = 10))):=by
 refine pc_start Tryz.func143 Tryz.ntmps143 ?_
 repeat' (first|refine stpb ?_|(refine stp3 ?_ ?_ <;> intro hg hq <;> try (exfalso;omega))|refine stpr ?_|fail)
 all_goals (refine ⟨?_,rfl⟩; simp only [oneOf,AV.v.injEq,Value.bool.injEq,Value.int.injEq,true_and])
 all_goals grind
theorem l1Type_c (ts:List Int) (v:Int):PC Tryz.prog 264 [sl cI ts,iv v] (fun r => r = iv (typeAt ts v)):=by
 refine pc_start Tryz.func264 Tryz.ntmps264 ?_
 repeat' (first|refine stpb ?_|(refine stp2 ?_ ?_ <;> intro hc hq <;> try (exfalso;omega))|(refine stp3 ?_ ?_ <;> intro hg hq <;> try (exfalso;omega))|refine stpr ?_|fail)
 all_goals (refine ⟨?_,rfl⟩; simp only [oneOf,AV.v.injEq,Value.bool.injEq,Value.int.injEq,true_and])
 all_goals grind [typeAt]
theorem typeOf_c (ts:List Int) (v:Int) (hl:ts.length ≤ 1048576):PC Tryz.prog 208 [sl cI ts,iv v] (fun r => r = iv (typeAt ts v)):=by
 refine pc_start Tryz.func208 Tryz.ntmps208 ?_
 repeat' (first|(apply id_rw;(apply rx_callE (k := 35);rfl;(apply within_c);(rfl);rfl))|refine stpb ?_|(refine stp2 ?_ ?_ <;> intro hc hq <;> try (exfalso;omega))|refine stpr ?_|fail)
 all_goals (refine ⟨?_,rfl⟩; simp only [oneOf,AV.v.injEq,Value.bool.injEq,Value.int.injEq,true_and])
 all_goals grind [typeAt]
theorem simpleOk_c (ts:List Int) (s:AL.Stmt) (hl:typesOk ts = true):PC Tryz.prog 144 [sl cI ts,aStmt s] (fun r => r = bv (s.th.isEmpty && s.el.isEmpty && simpleF ts s)):=by
 have hl2 := typesOk_len hl
 have hx := typeAt_bd hl s.x
 have hy := typeAt_bd hl s.y
 refine pc_start Tryz.func144 Tryz.ntmps144 ?_
 repeat' (first|(apply id_rw;(first|(apply rx_callE (k := 35);rfl;(apply within_c);(rfl);rfl)|(apply rx_callE (k := 208);rfl;(apply typeOf_c <;> (omega));exact Pur.pf;rfl)|(apply rx_callE (k := 209);rfl;(apply isHolder_c);(rfl);rfl)))|refine stpb ?_|(refine stp2 ?_ ?_ <;> intro hc hq <;> try (exfalso;omega))|(refine stp3 ?_ ?_ <;> intro hg hq <;> try (exfalso;omega))|refine stpd ?_|refine stpr ?_|fail)
 all_goals (refine ⟨?_,rfl⟩; simp only [oneOf,AV.v.injEq,Value.bool.injEq,Value.int.injEq,true_and])
 all_goals (cases hth : s.th <;> cases hel : s.el <;> simp only [hth,hel,List.length_nil,List.length_cons,List.isEmpty_nil,List.isEmpty_cons,Bool.true_and,Bool.false_and] at *)
 all_goals (try unfold simpleF)
 all_goals (try simp only [isRef,Bool.or_eq_true,Bool.or_eq_false_iff,decide_eq_true_eq,decide_eq_false_iff_not] at *)
 all_goals grind
theorem l1Simple_c (ts:List Int) (s:AL.Stmt) (hl:typesOk ts = true):PC Tryz.prog 205 [sl cI ts,aStmt s] (fun r => r = bv (simpleF ts s)):=by
 have hl2 := typesOk_len hl
 have hx := typeAt_bd hl s.x
 have hy := typeAt_bd hl s.y
 refine pc_start Tryz.func205 Tryz.ntmps205 ?_
 repeat' (first|(apply id_rw;(apply rx_callE (k := 264);rfl;(apply l1Type_c);exact Pur.pf;rfl))|refine stpb ?_|(refine stp2 ?_ ?_ <;> intro hc hq <;> try (exfalso;omega))|(refine stp3 ?_ ?_ <;> intro hg hq <;> try (exfalso;omega))|refine stpr ?_|fail)
 all_goals (refine ⟨?_,rfl⟩; simp only [oneOf,AV.v.injEq,Value.bool.injEq,Value.int.injEq,true_and])
 all_goals (try unfold simpleF)
 all_goals grind
theorem l1Stmt_c0 (ts:List Int) (hl:typesOk ts = true) (m:Nat) (ih:∀ l (d:Int),cntL l < m → 0 ≤ d → d ≤ 1000 → PC Tryz.prog 90 [sl cI ts,sl cStmt l,iv d] (fun r => r = bv (okL ts d.toNat l))) (s:AL.Stmt) (d:Int) (hs:cntS s ≤ m) (hd0:0 ≤ d) (hd:d ≤ 1000) :
  PC Tryz.prog 140 [sl cI ts,aStmt s,iv d] (fun r => r = bv (okS ts d.toNat s)) := by
 rw [okS_int ts d hd0]
 refine pc_start Tryz.func140 Tryz.ntmps140 ?_
 repeat' (first|(apply id_rw;(first|(apply rx_callE (k := 90);rfl;(apply ih <;> (first|omega|(have := cnt_th s;omega)));exact Pur.pf;rfl)|(apply rx_callE (k := 205);rfl;(apply l1Simple_c <;> (assumption));exact Pur.pf;rfl)))|refine stpb ?_|(refine stp2 ?_ ?_ <;> intro hc hq <;> try (exfalso;omega))|(refine stp3 ?_ ?_ <;> intro hg hq <;> try (exfalso;omega))|refine stpr ?_|fail)
 all_goals (refine ⟨?_,rfl⟩; simp only [oneOf,AV.v.injEq,Value.bool.injEq,Value.int.injEq,true_and])
 all_goals (cases hth : s.th <;> cases hel : s.el <;> simp only [hth,hel,List.length_nil,List.length_cons,List.isEmpty_nil,List.isEmpty_cons,Bool.true_and,Bool.false_and] at *)
 all_goals grind
theorem l1Body_c0 (ts:List Int) (hl:typesOk ts = true) (m:Nat) (ih:∀ s (d:Int),cntS s ≤ m → 0 ≤ d → d ≤ 1000 → PC Tryz.prog 140 [sl cI ts,aStmt s,iv d] (fun r => r = bv (okS ts d.toNat s))) (l:List AL.Stmt) (d:Int) (hs:cntL l ≤ m) (hm:m ≤ 100000000) (hd0:0 ≤ d) (hd:d ≤ 1000) :
  PC Tryz.prog 90 [sl cI ts,sl cStmt l,iv d] (fun r => r = bv (okL ts d.toNat l)) := by
 have hlen := cntL_len l
 refine pc_start Tryz.func90 Tryz.ntmps90 ?_
 repeat' (first|refine stpb ?_|fail)
 refine aw_loopA (σ := Nat) [0,1,2] [] (fun k => [(7,iv (k : Int))]) (fun k => []) (fun k => k ≤ l.length ∧ ∀ i,i < k → okS ts d.toNat l[i]! = true) (fun k => l.length - k) (0) ⟨by omega,by omega⟩ ?_
 intro k ⟨hk,hall⟩
 have hck := cntL_at l k
 repeat' (first|(apply id_rw;(apply rx_callE (k := 140);rfl;(apply ih _ d (Nat.le_trans (hck (by omega)) hs) hd0 hd);exact Pur.pf;rfl))|refine stpb ?_|(refine stp2 ?_ ?_ <;> intro hc hq <;> try (exfalso;omega))|refine stpr ?_|fail)
 ·(refine ⟨?_, rfl⟩; simp only [oneOf, AV.v.injEq, Value.bool.injEq, Value.int.injEq, true_and])
  rw [okL_take (k := k) (by omega) hq]
 ·(refine ex3 (k + 1) (Le.renA []) ?_ ?_)
  ·grind
  ·omega
 ·(refine ⟨?_, rfl⟩; simp only [oneOf, AV.v.injEq, Value.bool.injEq, Value.int.injEq, true_and])
  rw [okL_all (fun i hi => hall i (by omega))]
theorem l1_both (ts:List Int) (hl:typesOk ts = true):∀ (m:Nat),m ≤ 100000000 → (∀ s (d:Int),cntS s ≤ m → 0 ≤ d → d ≤ 1000 → PC Tryz.prog 140 [sl cI ts,aStmt s,iv d] (fun r => r = bv (okS ts d.toNat s))) ∧
  (∀ l (d : Int),cntL l ≤ m → 0 ≤ d → d ≤ 1000 → PC Tryz.prog 90 [sl cI ts,sl cStmt l,iv d] (fun r => r = bv (okL ts d.toNat l))) := by
 intro m
 induction m using Nat.strongRecOn with
 | ind m ih =>
  intro hm
  have h1 : ∀ s (d : Int), cntS s ≤ m → 0 ≤ d → d ≤ 1000 → PC Tryz.prog 140 [sl cI ts, aStmt s, iv d] (fun r => r = bv (okS ts d.toNat s)) :=
   fun s d h1 h2 h3 => l1Stmt_c0 ts hl m (fun l d' g1 g2 g3 => (ih (cntL l) g1 (by omega)).2 l d' (Nat.le_refl _) g2 g3) s d h1 h2 h3
  exact ⟨h1,fun l d g1 g2 g3 => l1Body_c0 ts hl m h1 l d g1 hm g2 g3⟩
theorem l1Count_c0 (m0:Nat) (ih:∀ l (most:Int),cntL l < m0 → -1 ≤ most → most ≤ 1000 → PC Tryz.prog 91 [sl cStmt l,iv most] (fun r => r = iv (lcL most 0 l))) (l:List AL.Stmt) (most:Int) (hs:cntL l ≤ m0) (hm:m0 ≤ 100000000) (hd0:-1 ≤ most) (hd:most ≤ 1000) :
  PC Tryz.prog 91 [sl cStmt l,iv most] (fun r => r = iv (lcL most 0 l)) := by
 have hlen := cntL_len l
 have hall := lcL_bd l most 0
 refine pc_start Tryz.func91 Tryz.ntmps91 ?_
 repeat' (first|refine stpb ?_|fail)
 refine aw_loopA (σ := Nat × Int) [0,1] [] (fun k => [(6,iv (k.1 : Int)),(5,iv k.2)]) (fun k => []) (fun k => k.1 ≤ l.length ∧ lcL most k.2 (l.drop k.1) = lcL most 0 l ∧ 0 ≤ k.2 ∧ k.2 ≤ cntL l) (fun k => l.length - k.1) (0,0) ⟨by omega,rfl,by omega,by omega⟩ ?_
 rintro ⟨k,n⟩ ⟨hk,hn,hn0,hn1⟩
 dsimp only at hk hn hn0 hn1 ⊢
 have hck := cntL_at l k
 have hct := cnt_th l[k]!
 have b1 := lcL_bd l[k]!.th (most - n) 0
 have b2 := fun z => lcL_bd l[k]!.el z 0
 have b3 := lcS_bd l[k]! most n
 have b4 := lcL_bd (l.drop (k + 1)) most (lcS most n l[k]!)
 have b5 := lcL_drop most n l k
 rw [lcS_def] at b3 b4 b5
 repeat' (first|(apply id_rw;(apply rx_callE (k := 91);rfl;(apply ih <;> omega);exact Pur.pf;rfl))|refine stpb ?_|(refine stp2 ?_ ?_ <;> intro hc hq <;> try (exfalso;omega))|(refine stp3 ?_ ?_ <;> intro hg hq <;> try (exfalso;omega))|refine stpr ?_|fail)
 ·(refine ex3 (k + 1, n + 1 + lcL (most - n) 0 l[k]!.th + lcL (most - (n + 1 + lcL (most - n) 0 l[k]!.th)) 0 l[k]!.el) (Le.renA []) ?_ ?_)
  ·dsimp only;grind
  ·dsimp only;omega
 ·(refine ex3 (k + 1, n + 1 + lcL (most - n) 0 l[k]!.th) (Le.renA []) ?_ ?_)
  ·dsimp only;grind
  ·dsimp only;omega
 ·(refine ⟨?_, rfl⟩; simp only [oneOf, AV.v.injEq, Value.bool.injEq, Value.int.injEq, true_and])
  rw [← hn,lcL_stop _ _ _ (by omega)]
 ·(refine ⟨?_, rfl⟩; simp only [oneOf, AV.v.injEq, Value.bool.injEq, Value.int.injEq, true_and])
  rw [← hn,lcL_end _ _ _ _ (by omega)]
theorem l1Count_c (l:List AL.Stmt) (most:Int) (hs:cntL l ≤ 100000000) (hd0:-1 ≤ most) (hd:most ≤ 1000) :
  PC Tryz.prog 91 [sl cStmt l,iv most] (fun r => r = iv (lcL most 0 l)) := by
 have h : ∀ (m : Nat), m ≤ 100000000 → ∀ l (most : Int), cntL l ≤ m → -1 ≤ most → most ≤ 1000 → PC Tryz.prog 91 [sl cStmt l, iv most] (fun r => r = iv (lcL most 0 l)) := by
  intro m
  induction m using Nat.strongRecOn with
  | ind m ih =>
   intro hm l most h1 h2 h3
   exact l1Count_c0 m (fun l' most' g1 g2 g3 => ih _ g1 (by omega) l' most' (Nat.le_refl _) g2 g3) l most h1 hm h2 h3
 exact h _ hs l most (Nat.le_refl _) hd0 hd
theorem l1Body_c (ts:List Int) (l:List AL.Stmt) (d:Int) (hl:typesOk ts = true) (hs:cntL l ≤ 100000000) (hd0:0 ≤ d) (hd:d ≤ 1000):PC Tryz.prog 90 [sl cI ts,sl cStmt l,iv d] (fun r => r = bv (okL ts d.toNat l)) :=
 (l1_both ts hl _ hs).2 l d (Nat.le_refl _) hd0 hd
theorem l1Types_c (ts:List Int) (hl:ts.length ≤ 1048576):PC Tryz.prog 89 [sl cI ts] (fun r => r = bv (typesOk ts)):=by
 refine pc_start Tryz.func89 Tryz.ntmps89 ?_
 repeat' (first|refine stpb ?_|fail)
 refine aw_loopA (σ := Nat) [0] [] (fun k => [(3,iv (k : Int))]) (fun k => []) (fun k => k ≤ ts.length ∧ ∀ i,i < k → 1 ≤ ts[i]! ∧ ts[i]! ≤ 4) (fun k => ts.length - k) (0) ⟨by omega,by omega⟩ ?_
 intro k ⟨hk,hall⟩
 repeat' (first|refine stpb ?_|(refine stp2 ?_ ?_ <;> intro hc hq <;> try (exfalso;omega))|(refine stp3 ?_ ?_ <;> intro hg hq <;> try (exfalso;omega))|refine stpr ?_|fail)
 ·(refine ⟨?_, rfl⟩; simp only [oneOf, AV.v.injEq, Value.bool.injEq, Value.int.injEq, true_and])
  unfold typesOk;grind [all_false,all_iff]
 ·(refine ex3 (k + 1) (Le.renA []) ?_ ?_)
  ·grind
  ·omega
 ·(refine ⟨?_, rfl⟩; simp only [oneOf, AV.v.injEq, Value.bool.injEq, Value.int.injEq, true_and])
  unfold typesOk;grind [all_false,all_iff]
 ·(refine ⟨?_, rfl⟩; simp only [oneOf, AV.v.injEq, Value.bool.injEq, Value.int.injEq, true_and])
  unfold typesOk;grind [all_false,all_iff]
theorem validS_c (p:Prg) (hl:p.types.length ≤ 1048576) (hs:cntL p.body ≤ 100000000):PC Tryz.prog 50 [aPrg p] (fun r => r = bv (validF p)):=by
 unfold validF
 cases ht : typesOk p.types
 ·refine pc_start Tryz.func50 Tryz.ntmps50 ?_
  repeat' (first|(apply id_rw;(apply rx_callE (k := 89);rfl;(apply l1Types_c <;> (assumption));exact Pur.pf;rfl))|refine stpb ?_|refine stpr ?_|fail)
  (refine ⟨?_,rfl⟩; simp only [oneOf,AV.v.injEq,Value.bool.injEq,Value.int.injEq,true_and])
  rfl
 ·refine pc_start Tryz.func50 Tryz.ntmps50 ?_
  repeat' (first|(apply id_rw;(first|(apply rx_callE (k := 89);rfl;(apply l1Types_c <;> (assumption));exact Pur.pf;rfl)|(apply rx_callE (k := 90);rfl;(apply l1Body_c <;> (first|assumption|omega));exact Pur.pf;rfl)|(apply rx_callE (k := 91);rfl;(apply l1Count_c <;> (first|assumption|omega));exact Pur.pf;rfl)))|refine stpb ?_|(refine stp3 ?_ ?_ <;> intro hg hq <;> try (exfalso;omega))|refine stpr ?_|fail)
  ·(refine ⟨?_, rfl⟩; simp only [oneOf, AV.v.injEq, Value.bool.injEq, Value.int.injEq, true_and])
   rw [show okL p.types 4 p.body = true from hq]; simp only [Bool.true_and,lcL_le,decide_eq_decide]; omega
  ·(refine ⟨?_, rfl⟩; simp only [oneOf, AV.v.injEq, Value.bool.injEq, Value.int.injEq, true_and])
   rw [show okL p.types 4 p.body = false from hq]; rfl
end Go.Proofs.YtjnhlgpbojggnaaGreatDoor
namespace Go.Proofs.YtjnhlgpbojggnaaGreatDoor
open Go.AL Go.RowKit
variable {N : Nat} {Q : Exit → AS → Prop} {all : Array Oper} {rest : List Oper} {tsl : List (Nat × AV)} {hsl : List (Nat × Option (List AV))} {nidl : Nat} {z0 : Lo} {md : Md} {d : Nat} {ty : TypeId} {pos : String} {af : Array Edge} {tys : Array TypeId}
theorem rx_scan {ts:List Int}{s:AL.Stmt}{nest c:Int}{x0 x1 x2 x3:Operand}{i0:Nat}(ha0:ev (lk tsl) x0 = some (sl cI ts)) (ha1:ev (lk tsl) x1 = some (aStmt s)) (ha2:ev (lk tsl) x2 = some (iv nest)) (ha3:ev (lk tsl) x3 = some (.optr i0 0)) (hH0:lkH hsl i0 = some ([iv c])) (hmc:MC Tryz.prog 95 [sl cI ts,aStmt s,iv nest,.optr 0 0] [(0,some ([iv c]))] 1 (fun _:Unit => True) (fun _ => bv (scS ts nest c s).1) (fun _ => [(0,some ([iv (scS ts nest c s).2]))])) (hM:Nat.ble (nidl + 0) big = true) (hN:Nat.blt d N = true){md':Md}[hmd:MdA md (rOs [x0,x1,x2,x3] ++ [.inr i0]) (List.map Sum.inr (List.map Prod.fst ([(i0,some ([iv (scS ts nest c s).2]))]:List (Nat × Option (List AV)))) ++ [.inl d]) md'] (kk:RW Tryz.prog N all Q md' rest ⟨(d,bv (scS ts nest c s).1) :: tsl,wrH hsl [(i0,some ([iv (scS ts nest c s).2]))],nidl + 0,z0⟩):RW Tryz.prog N all Q md (⟨some d,.call ⟨.value (.func 95),#[x0,x1,x2,x3],tys⟩,ty,pos,af,none⟩ :: rest) ⟨tsl,hsl,nidl,z0⟩:=by
 exact rx_mcallA (l := [x0,x1,x2,x3]) [i0] 1 [(i0,some ([iv (scS ts nest c s).2]))] hmc (avs := [sl cI ts,aStmt s,iv nest,.optr i0 0]) (by simp only [evL,ha0,ha1,ha2,ha3]) rfl hM hN (md' := md') (hmd := hmd) kk
theorem rx_scanAll {ts:List Int}{l:List AL.Stmt}{nest c:Int}{x0 x1 x2 x3:Operand}{i0:Nat}(ha0:ev (lk tsl) x0 = some (sl cI ts)) (ha1:ev (lk tsl) x1 = some (sl cStmt l)) (ha2:ev (lk tsl) x2 = some (iv nest)) (ha3:ev (lk tsl) x3 = some (.optr i0 0)) (hH0:lkH hsl i0 = some ([iv c])) (hmc:MC Tryz.prog 53 [sl cI ts,sl cStmt l,iv nest,.optr 0 0] [(0,some ([iv c]))] 1 (fun _:Unit => True) (fun _ => bv (scL ts nest c l).1) (fun _ => [(0,some ([iv (scL ts nest c l).2]))])) (hM:Nat.ble (nidl + 0) big = true) (hN:Nat.blt d N = true){md':Md}[hmd:MdA md (rOs [x0,x1,x2,x3] ++ [.inr i0]) (List.map Sum.inr (List.map Prod.fst ([(i0,some ([iv (scL ts nest c l).2]))]:List (Nat × Option (List AV)))) ++ [.inl d]) md'] (kk:RW Tryz.prog N all Q md' rest ⟨(d,bv (scL ts nest c l).1) :: tsl,wrH hsl [(i0,some ([iv (scL ts nest c l).2]))],nidl + 0,z0⟩):RW Tryz.prog N all Q md (⟨some d,.call ⟨.value (.func 53),#[x0,x1,x2,x3],tys⟩,ty,pos,af,none⟩ :: rest) ⟨tsl,hsl,nidl,z0⟩:=by
 exact rx_mcallA (l := [x0,x1,x2,x3]) [i0] 1 [(i0,some ([iv (scL ts nest c l).2]))] hmc (avs := [sl cI ts,sl cStmt l,iv nest,.optr i0 0]) (by simp only [evL,ha0,ha1,ha2,ha3]) rfl hM hN (md' := md') (hmd := hmd) kk
theorem scan_c0 (ts:List Int) (htO:typesOk ts = true) (m:Nat) (scanAll_ih:∀ l nest c,cntL l < m → 0 ≤ nest → nest ≤ 4 → 0 ≤ c → c ≤ 30 → MC Tryz.prog 53 [sl cI ts,sl cStmt l,iv nest,.optr 0 0] [(0,some ([iv c]))] 1 (fun _:Unit => True) (fun _ => bv (scL ts nest c l).1) (fun _ => [(0,some ([iv (scL ts nest c l).2]))])) (s:AL.Stmt) (nest c:Int) (hs:cntS s ≤ m) (hn0:0 ≤ nest) (hn:nest ≤ 4) (hc0:0 ≤ c) (hc:c ≤ 30):MC Tryz.prog 95 [sl cI ts,aStmt s,iv nest,.optr 0 0] [(0,some ([iv c]))] 1 (fun _:Unit => True) (fun _ => bv (scS ts nest c s).1) (fun _ => [(0,some ([iv (scS ts nest c s).2]))]):=by
 have ct := cnt_th s
 have hb1 := scL_bd ts s.th (nest + 1) (c + 1)
 refine mc_start Tryz.func95 Tryz.ntmps95 ?_
 repeat' (first|(apply id_rw;(first|(apply rx_scanAll;rfl;rfl;rfl;rfl;(rfl);(apply scanAll_ih <;> (first|assumption|omega|grind));rfl;rfl)|(apply rx_callE (k := 143);rfl;(apply isBranch_c);(rfl);rfl)|(apply rx_callE (k := 144);rfl;(apply simpleOk_c <;> (assumption));exact Pur.pf;rfl)))|refine stpb ?_|(refine stp2 ?_ ?_ <;> intro hc hq <;> try (exfalso;omega))|(refine stp3 ?_ ?_ <;> intro hg hq <;> try (exfalso;omega))|fail)
 all_goals (refine rq_ret rfl ?_; refine mc_ret () trivial ?_ ⟨sE ?_,trivial⟩)
 all_goals (try simp only [oneOf,AV.v.injEq,Value.bool.injEq,Value.int.injEq,true_and,spl,List.take,List.drop,List.length,List.append,List.nil_append,List.append_nil,Option.some.injEq,List.cons.injEq,and_true])
 all_goals rw [scS_def]
 all_goals clear scanAll_ih
 all_goals (cases hel : s.el <;> simp only [hel,List.length_nil,List.length_cons] at * <;> grind)
theorem scanAll_c0 (ts:List Int) (m:Nat) (hm:m ≤ 100000000) (scan_ih:∀ s nest c,cntS s ≤ m → 0 ≤ nest → nest ≤ 4 → 0 ≤ c → c ≤ 30 → MC Tryz.prog 95 [sl cI ts,aStmt s,iv nest,.optr 0 0] [(0,some ([iv c]))] 1 (fun _:Unit => True) (fun _ => bv (scS ts nest c s).1) (fun _ => [(0,some ([iv (scS ts nest c s).2]))])) (l:List AL.Stmt) (nest c:Int) (hs:cntL l ≤ m) (hn0:0 ≤ nest) (hn:nest ≤ 4) (hc0:0 ≤ c) (hc:c ≤ 30):MC Tryz.prog 53 [sl cI ts,sl cStmt l,iv nest,.optr 0 0] [(0,some ([iv c]))] 1 (fun _:Unit => True) (fun _ => bv (scL ts nest c l).1) (fun _ => [(0,some ([iv (scL ts nest c l).2]))]):=by
 have hlen := cntL_len l
 refine mc_start Tryz.func53 Tryz.ntmps53 ?_
 repeat' (first|refine stpb ?_|fail)
 refine aw_loopA (σ := Nat × Int) [0,2,3,11,12] [] (fun k => [(13,iv (k.1 : Int))]) (fun k => [(0,some [iv k.2])]) (fun k => k.1 ≤ l.length ∧ scL ts nest k.2 (l.drop k.1) = scL ts nest c l ∧ 0 ≤ k.2 ∧ k.2 ≤ 30) (fun k => l.length - k.1) (0,c) ⟨by omega,rfl,by omega,by omega⟩ ?_
 rintro ⟨k,c'⟩ ⟨hk,hn,hn0,hn1⟩
 dsimp only at hk hn hn0 hn1 ⊢
 have hck := cntL_at l k
 have hb1 := scS_bd ts l[k]! nest c'
 have hst := @scL_stop ts nest c' l k
 repeat' (first|(apply id_rw;(apply rx_scan;rfl;rfl;rfl;rfl;(rfl);(apply scan_ih <;> (first|assumption|omega));rfl;rfl))|refine stpb ?_|(refine stp2 ?_ ?_ <;> intro hc hq <;> try (exfalso;omega))|fail)
 ·(refine rq_ret rfl ?_; refine mc_ret () trivial ?_ ⟨sE ?_, trivial⟩)
  all_goals (try simp only [oneOf,AV.v.injEq,Value.bool.injEq,Value.int.injEq,true_and,spl,List.take,List.drop,List.length,List.append,List.nil_append,List.append_nil,Option.some.injEq,List.cons.injEq,and_true])
  all_goals (rw [← hn,hst (by omega)]; grind)
 ·(refine ex3 (k + 1, (scS ts nest c' l[k]!).2) (Le.renA []) ?_ ?_)
  ·dsimp only;grind
  ·dsimp only;omega
 ·(refine rq_ret rfl ?_; refine mc_ret () trivial ?_ ⟨sE ?_, trivial⟩)
  all_goals (try simp only [oneOf,AV.v.injEq,Value.bool.injEq,Value.int.injEq,true_and,spl,List.take,List.drop,List.length,List.append,List.nil_append,List.append_nil,Option.some.injEq,List.cons.injEq,and_true])
  all_goals (rw [← hn,List.drop_of_length_le (by omega),scL])
theorem scan_both (ts:List Int) (hl:typesOk ts = true):∀ (m:Nat),m ≤ 100000000 → (∀ s (nest c:Int),cntS s ≤ m → 0 ≤ nest → nest ≤ 4 → 0 ≤ c → c ≤ 30 → MC Tryz.prog 95 [sl cI ts,aStmt s,iv nest,.optr 0 0] [(0,some ([iv c]))] 1 (fun _:Unit => True) (fun _ => bv (scS ts nest c s).1) (fun _ => [(0,some ([iv (scS ts nest c s).2]))])) ∧
  (∀ l (nest c : Int),cntL l ≤ m → 0 ≤ nest → nest ≤ 4 → 0 ≤ c → c ≤ 30 → MC Tryz.prog 53 [sl cI ts,sl cStmt l,iv nest,.optr 0 0] [(0,some ([iv c]))] 1 (fun _ : Unit => True) (fun _ => bv (scL ts nest c l).1) (fun _ => [(0,some ([iv (scL ts nest c l).2]))])) := by
 intro m
 induction m using Nat.strongRecOn with
 | ind m ih =>
  intro hm
  have h1 : ∀ s (nest c : Int), cntS s ≤ m → 0 ≤ nest → nest ≤ 4 → 0 ≤ c → c ≤ 30 → MC Tryz.prog 95 [sl cI ts, aStmt s, iv nest, .optr 0 0] [(0, some ([iv c]))] 1 (fun _ : Unit => True) (fun _ => bv (scS ts nest c s).1) (fun _ => [(0, some ([iv (scS ts nest c s).2]))]) :=
   fun s nest c h1 h2 h3 h4 h5 => scan_c0 ts hl m (fun l nest c g1 g2 g3 g4 g5 => (ih (cntL l) g1 (by omega)).2 l nest c (Nat.le_refl _) g2 g3 g4 g5) s nest c h1 h2 h3 h4 h5
  exact ⟨h1,fun l nest c g1 g2 g3 g4 g5 => scanAll_c0 ts m hm h1 l nest c g1 g2 g3 g4 g5⟩
theorem scanAll_c (ts:List Int) (l:List AL.Stmt) (nest c:Int) (hl:typesOk ts = true) (hs:cntL l ≤ 100000000) (hn0:0 ≤ nest) (hn:nest ≤ 4) (hc0:0 ≤ c) (hc:c ≤ 30):MC Tryz.prog 53 [sl cI ts,sl cStmt l,iv nest,.optr 0 0] [(0,some ([iv c]))] 1 (fun _:Unit => True) (fun _ => bv (scL ts nest c l).1) (fun _ => [(0,some ([iv (scL ts nest c l).2]))]) :=
 (scan_both ts hl _ hs).2 l nest c (Nat.le_refl _) hn0 hn hc0 hc
theorem typesOk1_c (t:Int):PC Tryz.prog 94 [iv t] (fun r => r = bv (!(decide (1 ≤ t) && decide (t ≤ 4)))):=by
 refine pc_start Tryz.func94 Tryz.ntmps94 ?_
 repeat' (first|(apply id_rw;(apply rx_callE (k := 35);rfl;(apply within_c);(rfl);rfl))|refine stpb ?_|refine stpr ?_|fail)
 all_goals (refine ⟨?_,rfl⟩; simp only [oneOf,AV.v.injEq,Value.bool.injEq,Value.int.injEq,true_and])
def idxBad (ts : List Int) : Int := match ts.findIdx? (fun t => !(decide (1 ≤ t) && decide (t ≤ 4))) with | some i => i | none => -1
theorem idxBad_c (ts:List Int) (hl:ts.length ≤ 1048576):PC Tryz.prog 142 [sl cI ts,.v (.func (.func 94) #[] #[])] (fun r => r = iv (idxBad ts)):=by
 refine pc_start Tryz.func142 Tryz.ntmps142 ?_
 repeat' (first|refine stpb ?_|fail)
 refine aw_loopA (σ := Nat) [0,1,7] [] (fun k => [(8,iv (k : Int))]) (fun k => []) (fun k => k ≤ ts.length ∧ ∀ i,i < k → 1 ≤ ts[i]! ∧ ts[i]! ≤ 4) (fun k => ts.length - k) (0) ⟨by omega,by omega⟩ ?_
 intro k ⟨hk,hall⟩
 repeat' (first|(apply id_rw;(apply rx_callC;rfl;rfl;infer_instance;rfl;(apply typesOk1_c);(rfl);rfl))|refine stpb ?_|(refine stp2 ?_ ?_ <;> intro hc hq <;> try (exfalso;omega))|refine stpr ?_|fail)
 ·(refine ⟨?_, rfl⟩; simp only [oneOf, AV.v.injEq, Value.bool.injEq, Value.int.injEq, true_and])
  have hlt : k < ts.length := by omega
  have : ts.findIdx? (fun t => !(decide (1 ≤ t) && decide (t ≤ 4))) = some k := by
   rw [List.findIdx?_eq_some_iff_getElem]
   refine ⟨hlt,?_,fun j hj => ?_⟩
   ·rw [← getB ts k hlt]; grind
   ·have := hall j hj;rw [getB ts j (by omega)] at this;simp;omega
  simp only [idxBad,this]
 ·(refine ex3 (k + 1) (Le.renA []) ?_ ?_)
  ·grind
  ·omega
 ·(refine ⟨?_, rfl⟩; simp only [oneOf, AV.v.injEq, Value.bool.injEq, Value.int.injEq, true_and])
  have : ts.findIdx? (fun t => !(decide (1 ≤ t) && decide (t ≤ 4))) = none := by
   rw [List.findIdx?_eq_none_iff]
   intro x hx
   obtain ⟨i,hi,rfl⟩ := List.getElem_of_mem hx
   have := hall i (by omega);rw [getB ts i hi] at this;simp;omega
  simp only [idxBad,this]
theorem idxBad_ge (ts:List Int):decide (0 ≤ idxBad ts) = !(ts.all (fun t => decide (1 ≤ t) && decide (t ≤ 4))):=by
 unfold idxBad
 split
 ·rename_i i h
  obtain ⟨h1,h2,_⟩ := List.findIdx?_eq_some_iff_getElem.1 h
  have : ts.all (fun t => decide (1 ≤ t) && decide (t ≤ 4)) = false := by
   rw [List.all_eq_false]; exact ⟨ts[i],List.getElem_mem h1,by simp at h2 ⊢; omega⟩
  rw [this]; simp
 ·rename_i h
  rw [List.findIdx?_eq_none_iff] at h
  have : ts.all (fun t => decide (1 ≤ t) && decide (t ≤ 4)) = true := by
   rw [List.all_eq_true]; intro x hx;simpa using h x hx
  rw [this]; rfl
theorem contBad_c (ts:List Int) (hl:ts.length ≤ 1048576):PC Tryz.prog 93 [sl cI ts,.v (.func (.func 94) #[] #[])] (fun r => r = bv (!(ts.all (fun t => decide (1 ≤ t) && decide (t ≤ 4))))):=by
 refine pc_start Tryz.func93 Tryz.ntmps93 ?_
 repeat' (first|(apply id_rw;(apply rx_callE (k := 142);rfl;(apply idxBad_c <;> (assumption));exact Pur.pf;rfl))|refine stpb ?_|refine stpr ?_|fail)
 (refine ⟨?_,rfl⟩; simp only [oneOf,AV.v.injEq,Value.bool.injEq,Value.int.injEq,true_and])
 exact idxBad_ge ts
theorem typesOkI_c (ts:List Int) (hl:ts.length ≤ 1048576):PC Tryz.prog 52 [sl cI ts] (fun r => r = bv (typesOk ts)):=by
 refine pc_start Tryz.func52 Tryz.ntmps52 ?_
 repeat' (first|(apply id_rw;(apply rx_callE (k := 93);rfl;(apply contBad_c <;> (assumption));exact Pur.pf;rfl))|refine stpb ?_|(refine stp3 ?_ ?_ <;> intro hg hq <;> try (exfalso;omega))|refine stpr ?_|fail)
 all_goals (refine ⟨?_,rfl⟩; simp only [oneOf,AV.v.injEq,Value.bool.injEq,Value.int.injEq,true_and])
 all_goals (unfold typesOk;grind)
theorem validI_c (p:Prg) (hl:p.types.length ≤ 1048576) (hs:cntL p.body ≤ 100000000):PC Tryz.prog 17 [aPrg p] (fun r => r = bv (validF p)):=by
 rw [← scL_valid]
 cases ht : typesOk p.types
 ·refine pc_start Tryz.func17 Tryz.ntmps17 ?_
  repeat' (first|(apply id_rw;(apply rx_callE (k := 52);rfl;(apply typesOkI_c <;> (assumption));exact Pur.pf;rfl))|refine stpb ?_|refine stpr ?_|fail)
  all_goals (refine ⟨?_,rfl⟩; simp only [oneOf,AV.v.injEq,Value.bool.injEq,Value.int.injEq,true_and])
  all_goals grind
 ·refine pc_start Tryz.func17 Tryz.ntmps17 ?_
  repeat' (first|(apply id_rw;(first|(apply rx_callE (k := 52);rfl;(apply typesOkI_c <;> (assumption));exact Pur.pf;rfl)|(apply rx_scanAll;rfl;rfl;rfl;rfl;(rfl);(apply scanAll_c <;> (first|assumption|omega));rfl;rfl)))|refine stpb ?_|refine stpr ?_|fail)
  all_goals (refine ⟨?_,rfl⟩; simp only [oneOf,AV.v.injEq,Value.bool.injEq,Value.int.injEq,true_and])
  all_goals grind
theorem rx_pointsOf {l:List AL.Stmt}{pts:List Pnt}{m:Nat}{x0 x1:Operand}{i0:Nat}(ha0:ev (lk tsl) x0 = some (sl cStmt l)) (ha1:ev (lk tsl) x1 = some (.own i0 0 m 5)) (hH0:lkH hsl i0 = some (flat cPnt pts)) (hmc:MC Tryz.prog 101 [sl cStmt l,.own 0 0 m 5] [(0,some (flat cPnt pts))] 1 (fun _:Unit => True) (fun _ => .own 1 0 (m + npL l) 5) (fun _ => [(1,some (flat cPnt (pts ++ ptL pts.length l)))])) (hM:Nat.ble (nidl + 1) big = true) (hN:Nat.blt d N = true){md':Md}[hmd:MdA md (rOs [x0,x1] ++ [.inr i0]) (List.map Sum.inr (List.map Prod.fst ([(nidl,some (flat cPnt (pts ++ ptL pts.length l))),(i0,none)]:List (Nat × Option (List AV)))) ++ [.inl d]) md'] (kk:RW Tryz.prog N all Q md' rest ⟨(d,.own nidl 0 (m + npL l) 5) :: tsl,wrH hsl [(nidl,some (flat cPnt (pts ++ ptL pts.length l))),(i0,none)],nidl + 1,z0⟩):RW Tryz.prog N all Q md (⟨some d,.call ⟨.value (.func 101),#[x0,x1],tys⟩,ty,pos,af,none⟩ :: rest) ⟨tsl,hsl,nidl,z0⟩:=by
 exact rx_mcallA (l := [x0,x1]) [i0] 2 [(nidl,some (flat cPnt (pts ++ ptL pts.length l))),(i0,none)] hmc (avs := [sl cStmt l,.own i0 0 m 5]) (by simp only [evL,ha0,ha1]) rfl hM hN (md' := md') (hmd := hmd) kk
theorem pointsOf_c0 (mm:Nat) (hmm:mm ≤ 1048576) (pointsOf_ih:∀ l pts m,cntL l < mm → m = pts.length → m + npL l ≤ 13000000 → MC Tryz.prog 101 [sl cStmt l,.own 0 0 m 5] [(0,some (flat cPnt pts))] 1 (fun _:Unit => True) (fun _ => .own 1 0 (m + npL l) 5) (fun _ => [(1,some (flat cPnt (pts ++ ptL pts.length l)))])) (l:List AL.Stmt) (pts:List Pnt) (m:Nat) (hs:cntL l ≤ mm) (hm:m = pts.length) (hb:m + npL l ≤ 13000000):MC Tryz.prog 101 [sl cStmt l,.own 0 0 m 5] [(0,some (flat cPnt pts))] 1 (fun _:Unit => True) (fun _ => .own 1 0 (m + npL l) 5) (fun _ => [(1,some (flat cPnt (pts ++ ptL pts.length l)))]):=by
 have hlen := cntL_len l
 subst hm
 refine mc_start Tryz.func101 Tryz.ntmps101 ?_
 repeat' (first|refine stpb ?_|fail)
 refine AW.le ?_ (Le.mv (d := 1) (i := 0) (cs := flat cPnt pts) rfl rfl (by decide))
 refine aw_loopA (σ := Nat × List Pnt × Nat) [9,10] [] (fun k => [(11,iv (k.1 : Int)),(1,.own 1 0 k.2.2 5)]) (fun k => [(1,some (flat cPnt k.2.1))]) (fun k => k.1 ≤ l.length ∧ k.2.1 = pts ++ ptL pts.length (l.take k.1) ∧ k.2.2 = k.2.1.length ∧ k.2.2 = pts.length + npL (l.take k.1)) (fun k => l.length - k.1) (0,pts,pts.length) ⟨by omega,by simp [ptL],rfl,by simp [npL]⟩ ?_
 rintro ⟨k,xs,m1⟩ ⟨hk,hxs,hm1,hm2⟩
 dsimp only at hk hxs hm1 hm2 ⊢
 have hck := cntL_at l k
 have hct := cnt_th l[k]!
 have hnt := npL_at l k
 have n9 := npS_9 l[k]!
 have n10 := npS_10 l[k]!
 have n1 := npS_1 l[k]!
 repeat' (first|(apply id_rw;first|(apply rx_buildSliceI (t := _);rfl;rfl;rfl;(first|exact (rfl:_=some [_])|exact (rfl:_=some [_,_])|exact (rfl:_=some [_,_,_,_,_]));rfl;rfl)|(apply rx_pointsOf;rfl;rfl;(rfl);(apply pointsOf_ih <;> (first|omega|(simp only [lns] <;> omega)));rfl;rfl))|refine stpb ?_|(refine stp2 ?_ ?_ <;> intro hc hq <;> try (exfalso;omega))|fail)
 ·(refine ex3 (k + 1, _, _) (Le.renA [(1, 8)]) ?_ ?_)
  ·dsimp only
   rw [if_get1 hm1,if_set1 hm1,if_get2 (by rw [ptL_len,hm1]),if_set2 (by rw [ptL_len,hm1]),ptL_take l _ k (by omega),npL_take l k (by omega),ptS_def,if_pos hq,n9 hq]
   refine ⟨by omega,?_,by simp [ptL_len]; omega,by omega⟩
   have e1 : xs.length = pts.length + npL (l.take k) := by omega
   rw [← List.append_assoc pts,← hxs,← e1]
   simp only [List.append_assoc,List.length_append,List.length_cons,List.length_nil,ptL_len,hm1,Nat.zero_add]
   clear pointsOf_ih hxs hck hnt n9 n10 n1
   grind
  ·dsimp only;omega
 ·(refine ex3 (k + 1, _, _) (Le.renA [(1, 8)]) ?_ ?_)
  ·dsimp only
   rw [lp_get hm1,lp_set hm1,ptL_take l _ k (by omega),npL_take l k (by omega),ptS_def,if_neg (by omega),if_pos hq,n10 hq]
   refine ⟨by omega,?_,by simp [ptL_len]; omega,by omega⟩
   have e1 : xs.length = pts.length + npL (l.take k) := by omega
   rw [← List.append_assoc pts,← hxs,← e1]
   simp only [List.append_assoc,List.length_append,List.length_cons,List.length_nil,ptL_len,hm1,Nat.zero_add]
   clear pointsOf_ih hxs hck hnt n9 n10 n1
   grind
  ·dsimp only;omega
 ·(refine ex3 (k + 1, _, _) (Le.renA [(1, 5)]) ?_ ?_)
  ·dsimp only
   rw [ptL_take l _ k (by omega),npL_take l k (by omega),ptS_def,if_neg ‹¬l[k]!.op = 9›,if_neg hq,n1 ‹¬l[k]!.op = 9› hq]
   refine ⟨by omega,?_,by simp [ptL_len]; omega,by omega⟩
   have e1 : xs.length = pts.length + npL (l.take k) := by omega
   rw [← List.append_assoc pts,← hxs,← e1,hm1]
  ·dsimp only;omega
 ·refine rq_ret rfl ?_
  have e2 : l.take k = l := List.take_of_length_le (by omega)
  rw [e2] at hxs hm2
  refine mc_ret () trivial ?_ ⟨sE ?_,trivial⟩
  ·simp only [oneOf]; rw [hm2]
  ·rw [hxs]
theorem pointsOf_c (l:List AL.Stmt) (pts:List Pnt) (m:Nat) (hs:cntL l ≤ 1048576) (hm:m = pts.length) (hb:m + npL l ≤ 13000000):MC Tryz.prog 101 [sl cStmt l,.own 0 0 m 5] [(0,some (flat cPnt pts))] 1 (fun _:Unit => True) (fun _ => .own 1 0 (m + npL l) 5) (fun _ => [(1,some (flat cPnt (pts ++ ptL pts.length l)))]):=by
 have h : ∀ (mm : Nat), mm ≤ 1048576 → ∀ l pts m, cntL l ≤ mm → m = pts.length → m + npL l ≤ 13000000 → MC Tryz.prog 101 [sl cStmt l, .own 0 0 m 5] [(0, some (flat cPnt pts))] 1 (fun _ : Unit => True) (fun _ => .own 1 0 (m + npL l) 5) (fun _ => [(1, some (flat cPnt (pts ++ ptL pts.length l)))]) := by
  intro mm
  induction mm using Nat.strongRecOn with
  | ind mm ih =>
   intro h0 l pts m h1 h2 h3
   exact pointsOf_c0 mm h0 (fun l' pts' m' g1 g2 g3 => ih _ g1 (by omega) l' pts' m' (Nat.le_refl _) g2 g3) l pts m h1 h2 h3
 exact h _ hs l pts m (Nat.le_refl _) hm hb
theorem rx_pointsOfN {l:List AL.Stmt}{x0 x1:Operand}(ha0:ev (lk tsl) x0 = some (sl cStmt l)) (ha1:ev (lk tsl) x1 = some (.v (.slice none 0 0))) (hmc:MC Tryz.prog 101 [sl cStmt l,.v (.slice none 0 0)] [] 0 (fun _:Unit => True) (fun _ => .own 0 0 (npL l) 5) (fun _ => [(0,some (flat cPnt (ptL 0 l)))])) (hM:Nat.ble (nidl + 1) big = true) (hN:Nat.blt d N = true){md':Md}[hmd:MdA md (rOs [x0,x1] ++ []) (List.map Sum.inr (List.map Prod.fst ([(nidl,some (flat cPnt (ptL 0 l)))]:List (Nat × Option (List AV)))) ++ [.inl d]) md'] (kk:RW Tryz.prog N all Q md' rest ⟨(d,.own nidl 0 (npL l) 5) :: tsl,wrH hsl [(nidl,some (flat cPnt (ptL 0 l)))],nidl + 1,z0⟩):RW Tryz.prog N all Q md (⟨some d,.call ⟨.value (.func 101),#[x0,x1],tys⟩,ty,pos,af,none⟩ :: rest) ⟨tsl,hsl,nidl,z0⟩:=by
 exact rx_mcallA (l := [x0,x1]) [] 1 [(nidl,some (flat cPnt (ptL 0 l)))] hmc (avs := [sl cStmt l,.v (.slice none 0 0)]) (by simp only [evL,ha0,ha1]) rfl hM hN (md' := md') (hmd := hmd) kk
theorem pointsOfN_c (l:List AL.Stmt) (hs:cntL l ≤ 1048576):MC Tryz.prog 101 [sl cStmt l,.v (.slice none 0 0)] [] 0 (fun _:Unit => True) (fun _ => .own 0 0 (npL l) 5) (fun _ => [(0,some (flat cPnt (ptL 0 l)))]):=by
 have hlen := cntL_len l
 have hn2 := npL_le l
 refine mc_start Tryz.func101 Tryz.ntmps101 ?_
 repeat' (first|refine stpb ?_|fail)
 refine AW.le ?_ (Le.nilOwn (d := 1) 5 rfl (by decide))
 refine aw_loopA (σ := Nat × List Pnt × Nat) [9,10] [] (fun k => [(11,iv (k.1 : Int)),(1,.own 0 0 k.2.2 5)]) (fun k => [(0,some (flat cPnt k.2.1))]) (fun k => k.1 ≤ l.length ∧ k.2.1 = ptL 0 (l.take k.1) ∧ k.2.2 = k.2.1.length ∧ k.2.2 = npL (l.take k.1)) (fun k => l.length - k.1) (0,[],0) ⟨by omega,by simp [ptL],rfl,by simp [npL]⟩ ?_
 rintro ⟨k,xs,m1⟩ ⟨hk,hxs,hm1,hm2⟩
 dsimp only at hk hxs hm1 hm2 ⊢
 have hck := cntL_at l k
 have hct := cnt_th l[k]!
 have hnt := npL_at l k
 have n9 := npS_9 l[k]!
 have n10 := npS_10 l[k]!
 have n1 := npS_1 l[k]!
 repeat' (first|(apply id_rw;first|(apply rx_buildSliceI (t := _);rfl;rfl;rfl;(first|exact (rfl:_=some [_])|exact (rfl:_=some [_,_])|exact (rfl:_=some [_,_,_,_,_]));rfl;rfl)|(apply rx_pointsOf;rfl;rfl;(rfl);(apply pointsOf_c <;> (first|omega|(simp only [lns] <;> omega)));rfl;rfl))|refine stpb ?_|(refine stp2 ?_ ?_ <;> intro hc hq <;> try (exfalso;omega))|fail)
 ·(refine ex3 (k + 1, _, _) (Le.renA [(0, 7)]) ?_ ?_)
  ·dsimp only
   rw [if_get1 hm1,if_set1 hm1,if_get2 (by rw [ptL_len,hm1]),if_set2 (by rw [ptL_len,hm1]),ptL_take l _ k (by omega),npL_take l k (by omega),ptS_def,if_pos hq,n9 hq]
   refine ⟨by omega,?_,by simp [ptL_len]; omega,by omega⟩
   have e1 : npL (l.take k) = xs.length := by omega
   rw [Nat.zero_add,e1]
   rw [← hxs]
   simp only [List.append_assoc,List.length_append,List.length_cons,List.length_nil,ptL_len,hm1,Nat.zero_add]
   clear hxs hck hnt n9 n10 n1
   grind
  ·dsimp only;omega
 ·(refine ex3 (k + 1, _, _) (Le.renA [(0, 7)]) ?_ ?_)
  ·dsimp only
   rw [lp_get hm1,lp_set hm1,ptL_take l _ k (by omega),npL_take l k (by omega),ptS_def,if_neg (by omega),if_pos hq,n10 hq]
   refine ⟨by omega,?_,by simp [ptL_len]; omega,by omega⟩
   have e1 : npL (l.take k) = xs.length := by omega
   rw [Nat.zero_add,e1]
   rw [← hxs]
   simp only [List.append_assoc,List.length_append,List.length_cons,List.length_nil,ptL_len,hm1,Nat.zero_add]
   clear hxs hck hnt n9 n10 n1
   grind
  ·dsimp only;omega
 ·(refine ex3 (k + 1, _, _) (Le.renA [(0, 4)]) ?_ ?_)
  ·dsimp only
   rw [ptL_take l _ k (by omega),npL_take l k (by omega),ptS_def,if_neg ‹¬l[k]!.op = 9›,if_neg hq,n1 ‹¬l[k]!.op = 9› hq]
   refine ⟨by omega,?_,by simp [ptL_len]; omega,by omega⟩
   have e1 : npL (l.take k) = xs.length := by omega
   rw [Nat.zero_add,e1]
   rw [← hxs,hm1]
  ·dsimp only;omega
 ·refine rq_ret rfl ?_
  have e2 : l.take k = l := List.take_of_length_le (by omega)
  rw [e2] at hxs hm2
  refine mc_ret () trivial ?_ ⟨sE ?_,trivial⟩
  ·simp only [oneOf]; rw [hm2]
  ·rw [hxs]
theorem points_c (p:Prg) (hs:cntL p.body ≤ 1048576):PC Tryz.prog 60 [aPrg p] (fun r => r = sl cPnt (ptsF p)):=by
 have hn := npL_le p.body
 refine pc_start Tryz.func60 Tryz.ntmps60 ?_
 repeat' (first|(apply id_rw;first|(apply rx_buildSliceI (t := _);rfl;rfl;rfl;(exact (rfl:_=some [_,_,_,_,_]));rfl;rfl)|(apply rx_pointsOfN;rfl;rfl;(apply pointsOfN_c <;> (assumption));rfl;rfl))|refine stpb ?_|fail)
 (refine rq_le (Le.frzD (d := 2) (i := 3) rfl rfl) ?_; refine rq_ret rfl ?_)
 refine ⟨?_,?_⟩
 ·simp only [oneOf,sl,ptsF,List.length_append,List.length_cons,List.length_nil,ptL_len,Nat.zero_add]
 ·(exact pur_sl _ _)
theorem rx_l2Add {l:List AL.Stmt}{pts:List Pnt}{m:Nat}{x0 x1:Operand}{i0:Nat}(ha0:ev (lk tsl) x0 = some (.own i0 0 m 5)) (ha1:ev (lk tsl) x1 = some (sl cStmt l)) (hH0:lkH hsl i0 = some (flat cPnt pts)) (hmc:MC Tryz.prog 102 [.own 0 0 m 5,sl cStmt l] [(0,some (flat cPnt pts))] 1 (fun _:Unit => True) (fun _ => .own 1 0 (m + npL l) 5) (fun _ => [(1,some (flat cPnt (pts ++ ptL pts.length l)))])) (hM:Nat.ble (nidl + 1) big = true) (hN:Nat.blt d N = true){md':Md}[hmd:MdA md (rOs [x0,x1] ++ [.inr i0]) (List.map Sum.inr (List.map Prod.fst ([(nidl,some (flat cPnt (pts ++ ptL pts.length l))),(i0,none)]:List (Nat × Option (List AV)))) ++ [.inl d]) md'] (kk:RW Tryz.prog N all Q md' rest ⟨(d,.own nidl 0 (m + npL l) 5) :: tsl,wrH hsl [(nidl,some (flat cPnt (pts ++ ptL pts.length l))),(i0,none)],nidl + 1,z0⟩):RW Tryz.prog N all Q md (⟨some d,.call ⟨.value (.func 102),#[x0,x1],tys⟩,ty,pos,af,none⟩ :: rest) ⟨tsl,hsl,nidl,z0⟩:=by
 exact rx_mcallA (l := [x0,x1]) [i0] 2 [(nidl,some (flat cPnt (pts ++ ptL pts.length l))),(i0,none)] hmc (avs := [.own i0 0 m 5,sl cStmt l]) (by simp only [evL,ha0,ha1]) rfl hM hN (md' := md') (hmd := hmd) kk
theorem l2Add_c0 (mm:Nat) (hmm:mm ≤ 1048576) (l2Add_ih:∀ l pts m,cntL l < mm → m = pts.length → m + npL l ≤ 13000000 → MC Tryz.prog 102 [.own 0 0 m 5,sl cStmt l] [(0,some (flat cPnt pts))] 1 (fun _:Unit => True) (fun _ => .own 1 0 (m + npL l) 5) (fun _ => [(1,some (flat cPnt (pts ++ ptL pts.length l)))])) (l:List AL.Stmt) (pts:List Pnt) (m:Nat) (hs:cntL l ≤ mm) (hm:m = pts.length) (hb:m + npL l ≤ 13000000):MC Tryz.prog 102 [.own 0 0 m 5,sl cStmt l] [(0,some (flat cPnt pts))] 1 (fun _:Unit => True) (fun _ => .own 1 0 (m + npL l) 5) (fun _ => [(1,some (flat cPnt (pts ++ ptL pts.length l)))]):=by
 have hlen := cntL_len l
 subst hm
 refine mc_start Tryz.func102 Tryz.ntmps102 ?_
 repeat' (first|refine stpb ?_|fail)
 refine AW.le ?_ (Le.mv (d := 0) (i := 0) (cs := flat cPnt pts) rfl rfl (by decide))
 refine aw_loopA (σ := Nat × List Pnt × Nat) [1] [] (fun k => [(5,iv (k.1 : Int)),(0,.own 1 0 k.2.2 5)]) (fun k => [(1,some (flat cPnt k.2.1))]) (fun k => k.1 ≤ l.length ∧ k.2.1 = pts ++ ptL pts.length (l.take k.1) ∧ k.2.2 = k.2.1.length ∧ k.2.2 = pts.length + npL (l.take k.1)) (fun k => l.length - k.1) (0,pts,pts.length) ⟨by omega,by simp [ptL],rfl,by simp [npL]⟩ ?_
 rintro ⟨k,xs,m1⟩ ⟨hk,hxs,hm1,hm2⟩
 dsimp only at hk hxs hm1 hm2 ⊢
 have hck := cntL_at l k
 have hct := cnt_th l[k]!
 have hnt := npL_at l k
 have n9 := npS_9 l[k]!
 have n10 := npS_10 l[k]!
 have n1 := npS_1 l[k]!
 repeat' (first|(apply id_rw;first|(apply rx_buildSliceI (t := _);rfl;rfl;rfl;(first|exact (rfl:_=some [_])|exact (rfl:_=some [_,_])|exact (rfl:_=some [_,_,_,_,_]));rfl;rfl)|(apply rx_l2Add;rfl;rfl;(rfl);(apply l2Add_ih <;> (first|omega|(simp only [lns] <;> omega)));rfl;rfl))|refine stpb ?_|(refine stp2 ?_ ?_ <;> intro hc hq <;> try (exfalso;omega))|fail)
 ·(refine ex3 (k + 1, _, _) (Le.renA [(1, 8)]) ?_ ?_)
  ·dsimp only
   rw [if_get2 (by rw [ptL_len,hm1]),if_set2 (by rw [ptL_len,hm1]),if_get1 hm1,if_set1 hm1,ptL_take l _ k (by omega),npL_take l k (by omega),ptS_def,if_pos hq,n9 hq]
   refine ⟨by omega,?_,by simp [ptL_len]; omega,by omega⟩
   have e1 : xs.length = pts.length + npL (l.take k) := by omega
   rw [← List.append_assoc pts,← hxs,← e1]
   simp only [List.append_assoc,List.length_append,List.length_cons,List.length_nil,ptL_len,hm1,Nat.zero_add]
   clear l2Add_ih hxs hck hnt n9 n10 n1
   grind
  ·dsimp only;omega
 ·(refine ex3 (k + 1, _, _) (Le.renA [(1, 8)]) ?_ ?_)
  ·dsimp only
   rw [lp_get hm1,lp_set hm1,ptL_take l _ k (by omega),npL_take l k (by omega),ptS_def,if_neg (by omega),if_pos hq,n10 hq]
   refine ⟨by omega,?_,by simp [ptL_len]; omega,by omega⟩
   have e1 : xs.length = pts.length + npL (l.take k) := by omega
   rw [← List.append_assoc pts,← hxs,← e1]
   simp only [List.append_assoc,List.length_append,List.length_cons,List.length_nil,ptL_len,hm1,Nat.zero_add]
   clear l2Add_ih hxs hck hnt n9 n10 n1
   grind
  ·dsimp only;omega
 ·(refine ex3 (k + 1, _, _) (Le.renA [(1, 5)]) ?_ ?_)
  ·dsimp only
   rw [ptL_take l _ k (by omega),npL_take l k (by omega),ptS_def,if_neg ‹¬l[k]!.op = 9›,if_neg hq,n1 ‹¬l[k]!.op = 9› hq]
   refine ⟨by omega,?_,by simp [ptL_len]; omega,by omega⟩
   have e1 : xs.length = pts.length + npL (l.take k) := by omega
   rw [← List.append_assoc pts,← hxs,← e1,hm1]
  ·dsimp only;omega
 ·refine rq_ret rfl ?_
  have e2 : l.take k = l := List.take_of_length_le (by omega)
  rw [e2] at hxs hm2
  refine mc_ret () trivial ?_ ⟨sE ?_,trivial⟩
  ·simp only [oneOf]; rw [hm2]
  ·rw [hxs]
theorem l2Add_c (l:List AL.Stmt) (pts:List Pnt) (m:Nat) (hs:cntL l ≤ 1048576) (hm:m = pts.length) (hb:m + npL l ≤ 13000000):MC Tryz.prog 102 [.own 0 0 m 5,sl cStmt l] [(0,some (flat cPnt pts))] 1 (fun _:Unit => True) (fun _ => .own 1 0 (m + npL l) 5) (fun _ => [(1,some (flat cPnt (pts ++ ptL pts.length l)))]):=by
 have h : ∀ (mm : Nat), mm ≤ 1048576 → ∀ l pts m, cntL l ≤ mm → m = pts.length → m + npL l ≤ 13000000 → MC Tryz.prog 102 [.own 0 0 m 5, sl cStmt l] [(0, some (flat cPnt pts))] 1 (fun _ : Unit => True) (fun _ => .own 1 0 (m + npL l) 5) (fun _ => [(1, some (flat cPnt (pts ++ ptL pts.length l)))]) := by
  intro mm
  induction mm using Nat.strongRecOn with
  | ind mm ih =>
   intro h0 l pts m h1 h2 h3
   exact l2Add_c0 mm h0 (fun l' pts' m' g1 g2 g3 => ih _ g1 (by omega) l' pts' m' (Nat.le_refl _) g2 g3) l pts m h1 h2 h3
 exact h _ hs l pts m (Nat.le_refl _) hm hb
theorem l2Points_c (p:Prg) (hs:cntL p.body ≤ 1048576):PC Tryz.prog 62 [aPrg p] (fun r => r = sl cPnt (ptsF p)):=by
 have hn := npL_le p.body
 have e0 : ([] : List AV) = flat cPnt [] := rfl
 refine pc_start Tryz.func62 Tryz.ntmps62 ?_
 repeat' (first|(apply id_rw;(apply rx_l2Add;rfl;rfl;(exact flat_nilH rfl);(apply l2Add_c <;> (first|assumption|omega|(simp only [lns] <;> omega)));rfl;rfl))|refine stpb ?_|fail)
 (refine rq_le (Le.frzD (d := 2) (i := 4) rfl rfl) ?_; refine rq_ret rfl ?_)
 refine ⟨?_,(by (exact pur_sl _ _))⟩
 simp only [oneOf,sl,ptsF,List.length_append,List.length_cons,List.length_nil,ptL_len,Nat.zero_add,List.nil_append]
theorem takes_c (ts:List Int) (bd:List AL.Stmt) (pts:List Pnt) (v:Int) (h:0 ≤ v ∧ v < ts.length):PC Tryz.prog 152 [aG ts bd pts,iv v] (fun r => r = bv (tkT ts[v.toNat]!)):=by
 refine pc_start Tryz.func152 Tryz.ntmps152 ?_
 repeat' (first|refine stpb ?_|(refine stp3 ?_ ?_ <;> intro hg hq <;> try (exfalso;omega))|refine stpr ?_|fail)
 all_goals (refine ⟨?_,rfl⟩; simp only [oneOf,AV.v.injEq,Value.bool.injEq,Value.int.injEq,true_and])
 all_goals grind [tkT]
theorem use_c (ts:List Int) (bd:List AL.Stmt) (pts:List Pnt) (x:Pnt) (v:Int) (h:0 ≤ v ∧ v < ts.length):PC Tryz.prog 269 [aG ts bd pts,aPnt x,iv v] (fun r => r = iv (useAt ts x v)):=by
 refine pc_start Tryz.func269 Tryz.ntmps269 ?_
 repeat' (first|(apply id_rw;(apply rx_callE (k := 152);rfl;(apply takes_c <;> (assumption));exact Pur.pf;rfl))|refine stpb ?_|(refine stp2 ?_ ?_ <;> intro hc hq <;> try (exfalso;omega))|(refine stp3 ?_ ?_ <;> intro hg hq <;> try (exfalso;omega))|refine stpr ?_|fail)
 all_goals (refine ⟨?_,rfl⟩; simp only [oneOf,AV.v.injEq,Value.bool.injEq,Value.int.injEq,true_and])
 all_goals grind [tkT,useAt]
def idxF (xs : List Int) (v : Int) : Int := match xs.findIdx? (fun t => decide (t = v)) with | some i => i | none => -1
theorem index_c (xs:List Int) (v:Int) (hl:xs.length ≤ 1048576):PC Tryz.prog 262 [sl cI xs,iv v] (fun r => r = iv (idxF xs v)):=by
 refine pc_start Tryz.func262 Tryz.ntmps262 ?_
 repeat' (first|refine stpb ?_|fail)
 refine aw_loopA (σ := Nat) [0,1,7] [] (fun k => [(8,iv (k : Int))]) (fun k => []) (fun k => k ≤ xs.length ∧ ∀ i,i < k → xs[i]! ≠ v) (fun k => xs.length - k) (0) ⟨by omega,by omega⟩ ?_
 intro k ⟨hk,hall⟩
 repeat' (first|refine stpb ?_|(refine stp2 ?_ ?_ <;> intro hc hq <;> try (exfalso;omega))|refine stpr ?_|fail)
 ·(refine ⟨?_, rfl⟩; simp only [oneOf, AV.v.injEq, Value.bool.injEq, Value.int.injEq, true_and])
  have hlt : k < xs.length := by omega
  have : xs.findIdx? (fun t => decide (t = v)) = some k := by
   rw [List.findIdx?_eq_some_iff_getElem]
   refine ⟨hlt,?_,fun j hj => ?_⟩
   ·rw [← getB xs k hlt]; grind
   ·have := hall j hj;rw [getB xs j (by omega)] at this;simpa using this
  simp only [idxF,this]
 ·(refine ex3 (k + 1) (Le.renA []) ?_ ?_)
  ·grind
  ·omega
 ·(refine ⟨?_, rfl⟩; simp only [oneOf, AV.v.injEq, Value.bool.injEq, Value.int.injEq, true_and])
  have : xs.findIdx? (fun t => decide (t = v)) = none := by
   rw [List.findIdx?_eq_none_iff]
   intro x hx
   obtain ⟨i,hi,rfl⟩ := List.getElem_of_mem hx
   have := hall i (by omega);rw [getB xs i hi] at this;simpa using this
  simp only [idxF,this]
theorem idxF_ge (xs:List Int) (v:Int):decide (0 ≤ idxF xs v) = decide (v ∈ xs):=by
 unfold idxF
 split
 ·rename_i i h
  obtain ⟨h1,h2,_⟩ := List.findIdx?_eq_some_iff_getElem.1 h
  simp only [decide_eq_true_eq] at h2
  have : v ∈ xs := by rw [← h2]; exact List.getElem_mem h1
  simp [this]
 ·rename_i h
  rw [List.findIdx?_eq_none_iff] at h
  have : v ∉ xs := fun hm => by have := h v hm;simp at this
  simp [this]
theorem contains_c (xs:List Int) (v:Int) (hl:xs.length ≤ 1048576):PC Tryz.prog 201 [sl cI xs,iv v] (fun r => r = bv (decide (v ∈ xs))):=by
 refine pc_start Tryz.func201 Tryz.ntmps201 ?_
 repeat' (first|(apply id_rw;(apply rx_callE (k := 262);rfl;(apply index_c <;> (assumption));exact Pur.pf;rfl))|refine stpb ?_|refine stpr ?_|fail)
 (refine ⟨?_,rfl⟩; simp only [oneOf,AV.v.injEq,Value.bool.injEq,Value.int.injEq,true_and])
 exact idxF_ge xs v
theorem which_c (ts:List Int) (bd:List AL.Stmt) (pts:List Pnt) (x:Pnt) (us:List Int) (h:ts.length ≤ 6) (hu:us.length ≤ 1000):PC Tryz.prog 212 [aG ts bd pts,aPnt x,sl cI us] (fun r => r = iv (wS ts x us:Nat)):=by
 refine pc_start Tryz.func212 Tryz.ntmps212 ?_
 repeat' (first|refine stpb ?_|fail)
 refine aw_loopA (σ := Nat × Nat) [0,2,4,14] [0] (fun k => [(15,iv (k.1 : Int)),(7,iv (k.2 : Int))]) (fun k => []) (fun k => k.1 ≤ ts.length ∧ k.2 = mkBits (fun v => decide (useAt ts x v ∈ us)) k.1) (fun k => ts.length - k.1) (0,0) ⟨by omega,rfl⟩ ?_
 rintro ⟨k,A⟩ ⟨hk,hA⟩
 dsimp only at hk hA ⊢
 have hsm : Sm A := hA ▸ mkBits_sm (by omega)
 repeat' (first|(apply id_rw;first|(apply rx_shl1;rfl;rfl;infer_instance;omega;rfl;(case' kk => intro hsm))|(first|(apply rx_callE (k := 201);rfl;(apply contains_c <;> (omega));exact Pur.pf;rfl)|(apply rx_callE (k := 269);rfl;(apply use_c <;> (omega));exact Pur.pf;rfl)))|refine stpb ?_|(refine stp2 ?_ ?_ <;> intro hc hq <;> try (exfalso;omega))|refine stpr ?_|fail)
 ·(refine ex3 (k + 1, _) (Le.renA [(0, 0)]) ?_ ?_)
  ·dsimp only
   rw [hA]
   exact ⟨by omega,mkBits_succ _ _ (by simpa using hq)⟩
  ·dsimp only;omega
 ·(refine ex3 (k + 1, _) (Le.renA [(0, 0)]) ?_ ?_)
  ·dsimp only
   rw [hA]
   exact ⟨by omega,mkBits_skip _ _ (by simpa using hq)⟩
  ·dsimp only;omega
 ·(refine ⟨?_, rfl⟩; simp only [oneOf, AV.v.injEq, Value.bool.injEq, Value.int.injEq, true_and])
  rw [hA,show k = ts.length by omega]; rfl
theorem used_c (ts:List Int) (bd:List AL.Stmt) (pts:List Pnt) (x:Pnt) (h:ts.length ≤ 6):PC Tryz.prog 149 [aG ts bd pts,aPnt x] (fun r => r = iv (wS ts x [1,2,3]:Nat)):=by
 refine pc_start Tryz.func149 Tryz.ntmps149 ?_
 repeat' (first|(apply id_rw;first|(apply rx_buildSliceI (t := _);rfl;rfl;rfl;(exact (rfl:_=some [_,_,_]));rfl;rfl)|(apply rx_callE (k := 212);rfl;(apply which_c (us := [1,2,3]) <;> (first|assumption|decide));exact Pur.pf;rfl))|refine stpb ?_|refine stpr ?_|fail)
 (refine ⟨?_,rfl⟩; simp only [oneOf,AV.v.injEq,Value.bool.injEq,Value.int.injEq,true_and])
theorem bits_c (A:Nat) (hA:Sm A):PC Tryz.prog 148 [iv (A:Int)] (fun r => r = sl cI (bitsI A)):=by
 refine pc_start Tryz.func148 Tryz.ntmps148 ?_
 repeat' (first|refine stpb ?_|fail)
 refine AW.le ?_ (Le.nilOwn (d := 3) 1 rfl (by decide))
 refine aw_loopA (σ := Nat × List Int × Nat) [0] [] (fun k => [(4,iv (k.1 : Int)),(3,.own 0 0 k.2.2 1)]) (fun k => [(0,some (flat cI k.2.1))]) (fun k => k.1 ≤ 62 ∧ k.2.1 = ((List.range k.1).filter (A.testBit ·)).map (fun v : Nat => (v : Int)) ∧ k.2.2 = k.2.1.length ∧ k.2.2 ≤ k.1) (fun k => 62 - k.1) (0,[],0) ⟨by omega,rfl,rfl,Nat.le_refl _⟩ ?_
 rintro ⟨k,u,m⟩ ⟨hk,hu,hm,hmk⟩
 dsimp only at hk hu hm hmk ⊢
 repeat' (first|(apply id_rw;(apply rx_buildSliceI (t := _);rfl;rfl;rfl;exact (rfl:_=some [_]);rfl;rfl))|refine stpb ?_|(refine stp2 ?_ ?_ <;> intro hc hq <;> try (exfalso;omega))|fail)
 ·have hlt := shr_pos hA (show 0 < ((A >>> k : Nat) : Int) by assumption)
  (refine ex3 (k + 1,_,_) (Le.renA [(0,2)]) ?_ ?_)
  ·dsimp only
   exact ⟨by omega,filt_snoc hq hu,by simp;omega,by omega⟩
  ·dsimp only;omega
 ·have hlt := shr_pos hA (show 0 < ((A >>> k : Nat) : Int) by assumption)
  (refine ex3 (k + 1,u,m) (Le.renA [(0,0)]) ?_ ?_)
  ·dsimp only
   exact ⟨by omega,filt_skip hq hu,hm,by omega⟩
  ·dsimp only;omega
 ·(refine rq_le (Le.frzD (d := 2) (i := 0) rfl rfl) ?_; refine rq_ret rfl ?_)
  refine ⟨?_,(by (exact pur_sl _ _))⟩
  simp only [oneOf,sl]
  rw [bitsI_pre (k := k) (fun v hv => shr_zero hq v hv) (by omega) hA,← hu,← hm]
theorem graphOf_c (p:Prg) (hl:p.types.length ≤ 1048576) (hs:cntL p.body ≤ 1048576):PC Tryz.prog 104 [aPrg p,.v (.slice none 0 0)] (fun r => r = if validF p = true then .tup [aG p.types p.body (ptsF p),bv true] else .tup [.v (.pointer none),bv false]):=by
 have hpl := ptsF_len p
 have hnl := npL_le p.body
 refine pc_start Tryz.func104 Tryz.ntmps104 ?_
 repeat' (first|(apply id_rw;(first|(apply rx_callE (k := 17);rfl;(apply validI_c <;> (first|assumption|omega));exact Pur.pf;rfl)|(apply rx_callE (k := 60);rfl;(apply points_c <;> (assumption));exact Pur.pf;rfl)))|refine stpb ?_|(refine stp2 ?_ ?_ <;> intro hc hq <;> try (exfalso;omega))|refine stpd ?_|fail)
 ·refine rq_ret rfl ⟨?_, (by (rfl))⟩
  rw [if_neg (by simp [hq])]; rfl
 ·refine aw_loopA (σ := Unit) [6, 17, 18] [1] (fun _u => [(19, iv 0)]) (fun _u => []) (fun _u => True) (fun _u => 0) () trivial ?_
  intro _ _
  repeat' (first|refine stpb ?_|fail)
  refine rq_le (Le.frzP (d := 4) (i := 1) rfl rfl) ?_
  refine rq_ret rfl ⟨?_,(by show (AV.tup [aG p.types p.body (ptsF p),bv true]).pur = true;exact PurV.pf)⟩
  rw [if_pos hq]; rfl
abbrev cRd (bs : List UInt8) (p : Nat) : List AV := [sl cU bs,iv (p : Int)]
def pickX (bs : List UInt8) (q : Int) : Int := ((bs[(q % (bs.length : Int)).toNat]!).toNat : Int) * 131 + ((bs[((q * 7 + 3) % (bs.length : Int)).toNat]!).toNat : Int) * 1117 + q * 29 + q / (bs.length : Int) * 53
def pickF (bs : List UInt8) (p : Nat) (n : Int) : Int :=
 if n < 1 then 0 else if (bs.length : Int) = 0 then 0 else
 if (p : Int) + 1 - 1 < (bs.length : Int) then ((bs[((p : Int) + 1 - 1).toNat]!).toNat : Int) % n
 else (((pickX bs ((p : Int) + 1 - 1)).toNat ^^^ (pickX bs ((p : Int) + 1 - 1) / 64).toNat : Nat) : Int) % n
theorem pickF_bd (bs:List UInt8) (p:Nat) (n:Int):0 ≤ pickF bs p n ∧ (pickF bs p n < n ∨ n < 1 ∧ pickF bs p n = 0):=by
 unfold pickF
 split
 ·omega
 ·split
  ·omega
  ·split
   ·exact ⟨Int.emod_nonneg _ (by omega),.inl (Int.emod_lt_of_pos _ (by omega))⟩
   ·exact ⟨Int.emod_nonneg _ (by omega),.inl (Int.emod_lt_of_pos _ (by omega))⟩
def numF (bs : List UInt8) (p : Nat) (xs : List Int) : Int := xs[(pickF bs p (xs.length : Int)).toNat]!
class NumL (cs : List AV) (xs : outParam (List Int)) : Prop where h : cs = flat cI xs
instance NumL.nil : NumL [] []:=⟨rfl⟩
instance NumL.cons {n : Int} {cs : List AV} {xs : List Int} [h : NumL cs xs] : NumL (.v (.int .i64 n) :: cs) (n :: xs):=⟨by rw [h.h]; rfl⟩
theorem rx_pick {bs:List UInt8}{p:Nat}{n:Int}{x0 x1:Operand}{i0:Nat}(ha0:ev (lk tsl) x0 = some (.optr i0 0)) (ha1:ev (lk tsl) x1 = some (iv n)) (hH0:lkH hsl i0 = some (cRd bs p)) (hmc:MC Tryz.prog 33 [.optr 0 0,iv n] [(0,some (cRd bs p))] 1 (fun _:Unit => True) (fun _ => iv (pickF bs p n)) (fun _ => [(0,some (cRd bs (p + 1)))])) (hM:Nat.ble (nidl + 0) big = true) (hN:Nat.blt d N = true){md':Md}[hmd:MdA md (rOs [x0,x1] ++ [.inr i0]) (List.map Sum.inr (List.map Prod.fst ([(i0,some (cRd bs (p + 1)))]:List (Nat × Option (List AV)))) ++ [.inl d]) md'] (kk:RW Tryz.prog N all Q md' rest ⟨(d,iv (pickF bs p n)) :: tsl,wrH hsl [(i0,some (cRd bs (p + 1)))],nidl + 0,z0⟩):RW Tryz.prog N all Q md (⟨some d,.call ⟨.value (.func 33),#[x0,x1],tys⟩,ty,pos,af,none⟩ :: rest) ⟨tsl,hsl,nidl,z0⟩:=by
 exact rx_mcallA (l := [x0,x1]) [i0] 1 [(i0,some (cRd bs (p + 1)))] hmc (avs := [.optr i0 0,iv n]) (by simp only [evL,ha0,ha1]) rfl hM hN (md' := md') (hmd := hmd) kk
theorem rx_num0 {bs:List UInt8}{p:Nat}{xs:List Int}{x0 x1:Operand}{i0:Nat}(ha0:ev (lk tsl) x0 = some (.optr i0 0)) (ha1:ev (lk tsl) x1 = some (sl cI xs)) (hH0:lkH hsl i0 = some (cRd bs p)) (hmc:MC Tryz.prog 34 [.optr 0 0,sl cI xs] [(0,some (cRd bs p))] 1 (fun _:Unit => True) (fun _ => iv (numF bs p xs)) (fun _ => [(0,some (cRd bs (p + 1)))])) (hM:Nat.ble (nidl + 0) big = true) (hN:Nat.blt d N = true){md':Md}[hmd:MdA md (rOs [x0,x1] ++ [.inr i0]) (List.map Sum.inr (List.map Prod.fst ([(i0,some (cRd bs (p + 1)))]:List (Nat × Option (List AV)))) ++ [.inl d]) md'] (kk:RW Tryz.prog N all Q md' rest ⟨(d,iv (numF bs p xs)) :: tsl,wrH hsl [(i0,some (cRd bs (p + 1)))],nidl + 0,z0⟩):RW Tryz.prog N all Q md (⟨some d,.call ⟨.value (.func 34),#[x0,x1],tys⟩,ty,pos,af,none⟩ :: rest) ⟨tsl,hsl,nidl,z0⟩:=by
 exact rx_mcallA (l := [x0,x1]) [i0] 1 [(i0,some (cRd bs (p + 1)))] hmc (avs := [.optr i0 0,sl cI xs]) (by simp only [evL,ha0,ha1]) rfl hM hN (md' := md') (hmd := hmd) kk
theorem rx_num0O {bs:List UInt8}{p:Nat}{xs:List Int}{x0 x1:Operand}{i0 i1:Nat}(ha0:ev (lk tsl) x0 = some (.optr i0 0)) (ha1:ev (lk tsl) x1 = some (.own i1 0 xs.length 1)) (hH0:lkH hsl i0 = some (cRd bs p)) (hH1:lkH hsl i1 = some (flat cI xs)) (hdd:Go.AL.distinct [i0,i1] = true) (hmc:MC Tryz.prog 34 [.optr 0 0,.own 1 0 xs.length 1] [(0,some (cRd bs p)),(1,some (flat cI xs))] 2 (fun _:Unit => True) (fun _ => iv (numF bs p xs)) (fun _ => [(0,some (cRd bs (p + 1)))])) (hM:Nat.ble (nidl + 0) big = true) (hN:Nat.blt d N = true){md':Md}[hmd:MdA md (rOs [x0,x1] ++ [.inr i0,.inr i1]) (List.map Sum.inr (List.map Prod.fst ([(i0,some (cRd bs (p + 1))),(i1,none)]:List (Nat × Option (List AV)))) ++ [.inl d]) md'] (kk:RW Tryz.prog N all Q md' rest ⟨(d,iv (numF bs p xs)) :: tsl,wrH hsl [(i0,some (cRd bs (p + 1))),(i1,none)],nidl + 0,z0⟩):RW Tryz.prog N all Q md (⟨some d,.call ⟨.value (.func 34),#[x0,x1],tys⟩,ty,pos,af,none⟩ :: rest) ⟨tsl,hsl,nidl,z0⟩:=by
 exact rx_mcallA (l := [x0,x1]) [i0,i1] 2 [(i0,some (cRd bs (p + 1))),(i1,none)] hmc (avs := [.optr i0 0,.own i1 0 xs.length 1]) (by simp only [evL,ha0,ha1]) hdd hM hN (md' := md') (hmd := hmd) kk
theorem pick_c (bs:List UInt8) (p:Nat) (n:Int) (hb:bs.length ≤ 2000) (hp:p ≤ 1048576) (hn0:0 ≤ n) (hn:n ≤ 1048576):MC Tryz.prog 33 [.optr 0 0,iv n] [(0,some (cRd bs p))] 1 (fun _:Unit => True) (fun _ => iv (pickF bs p n)) (fun _ => [(0,some (cRd bs (p + 1)))]):=by
 have hdiv : 0 ≤ ((p : Int) + 1 - 1) / (bs.length : Int) ∧ ((p : Int) + 1 - 1) / (bs.length : Int) ≤ p + 1 - 1 := ⟨Int.ediv_nonneg (by omega) (by omega),Int.ediv_le_self _ (by omega)⟩
 refine mc_start Tryz.func33 Tryz.ntmps33 ?_
 repeat' (first|(apply id_rw;(apply rx_convB;rfl;rfl;(case' kk => intro hbd)))|refine stpb ?_|(refine stp2 ?_ ?_ <;> intro hc hq <;> try (exfalso;omega))|(refine stp3 ?_ ?_ <;> intro hg hq <;> try (exfalso;omega))|refine stpd ?_|fail)
 all_goals (refine rq_ret rfl ?_; refine mc_ret () trivial ?_ ⟨sE ?_,trivial⟩)
 all_goals first|rfl|skip
 all_goals simp only [oneOf,AV.v.injEq,Value.int.injEq,true_and,pickF]
 ·rw [if_neg (by omega),if_pos (by omega)]
 ·rw [if_neg (by omega),if_neg (by omega),if_pos (by omega)]
 ·rw [if_neg (by omega),if_neg (by omega),if_neg (by omega)]; rfl
 ·rw [if_pos (by omega)]
theorem num0_c (bs:List UInt8) (p:Nat) (xs:List Int) (hb:bs.length ≤ 2000) (hp:p ≤ 1048576) (h0:0 < xs.length) (hn:xs.length ≤ 1048576):MC Tryz.prog 34 [.optr 0 0,sl cI xs] [(0,some (cRd bs p))] 1 (fun _:Unit => True) (fun _ => iv (numF bs p xs)) (fun _ => [(0,some (cRd bs (p + 1)))]):=by
 have hpf := pickF_bd bs p xs.length
 refine mc_start Tryz.func34 Tryz.ntmps34 ?_
 repeat' (first|(apply id_rw;(apply rx_pick;rfl;rfl;(rfl);(apply pick_c <;> (first|assumption|omega));rfl;rfl))|refine stpb ?_|fail)
 (refine rq_ret rfl ?_; refine mc_ret () trivial ?_ ⟨sE ?_,trivial⟩)
 ·rfl
 ·rfl
theorem rx_num {Q:Exit → AS → Prop}{all:Array Oper}{rest:List Oper}{N:Nat}{tsl:List (Nat × AV)}{hsl:List (Nat × Option (List AV))}{nidl:Nat}{z0:Lo}{md:Md}{d:Nat}{ty:TypeId}{pos:String}{af:Array Edge}{tys:Array TypeId}
  {bs : List UInt8} {p m : Nat} {cs : List AV} {xs : List Int} {x0 x1 : Operand} {i0 : Nat} (ha0 : ev (lk tsl) x0 = some (.optr i0 0)) (ha1 : ev (lk tsl) x1 = some (.imm m cs)) (hcs : NumL cs xs) (hH0 : lkH hsl i0 = some (cRd bs p))
  (hm : m = xs.length) (hb : bs.length ≤ 2000) (hp : p ≤ 1048576) (h0 : 0 < xs.length) (hn : xs.length ≤ 1048576) (hM : Nat.ble (nidl + 0) big = true) (hN : Nat.blt d N = true) {md' : Md}
  [hmd : MdA md (rOs [x0,x1] ++ [.inr i0]) [.inr i0,.inl d] md']
  (kk : RW Tryz.prog N all Q md' rest ⟨(d,iv (numF bs p xs)) :: tsl,(i0,some (cRd bs (p + 1))) :: hsl,nidl + 0,z0⟩) : RW Tryz.prog N all Q md (⟨some d,.call ⟨.value (.func 34),#[x0,x1],tys⟩,ty,pos,af,none⟩ :: rest) ⟨tsl,hsl,nidl,z0⟩ := by
 have h := hcs.h
 subst hm h
 exact rx_num0 ha0 ha1 hH0 (num0_c bs p xs hb hp h0 hn) hM hN (hmd := hmd) kk
theorem num0O_c (bs:List UInt8) (p:Nat) (xs:List Int) (hb:bs.length ≤ 2000) (hp:p ≤ 1048576) (h0:0 < xs.length) (hn:xs.length ≤ 1048576):MC Tryz.prog 34 [.optr 0 0,.own 1 0 xs.length 1] [(0,some (cRd bs p)),(1,some (flat cI xs))] 2 (fun _:Unit => True) (fun _ => iv (numF bs p xs)) (fun _ => [(0,some (cRd bs (p + 1)))]):=by
 have hpf := pickF_bd bs p xs.length
 refine mc_start Tryz.func34 Tryz.ntmps34 ?_
 repeat' (first|(apply id_rw;(apply rx_pick;rfl;rfl;(rfl);(apply pick_c <;> (first|assumption|omega));rfl;rfl))|refine stpb ?_|fail)
 (refine rq_ret rfl ?_; refine mc_ret () trivial ?_ ⟨sE ?_,trivial⟩)
 ·rfl
 ·rfl
theorem rx_numO {Q:Exit → AS → Prop}{all:Array Oper}{rest:List Oper}{N:Nat}{tsl:List (Nat × AV)}{hsl:List (Nat × Option (List AV))}{nidl:Nat}{z0:Lo}{md:Md}{d:Nat}{ty:TypeId}{pos:String}{af:Array Edge}{tys:Array TypeId}
  {bs : List UInt8} {p m : Nat} {cs : List AV} {xs : List Int} {x0 x1 : Operand} {i0 i1 : Nat} (ha0 : ev (lk tsl) x0 = some (.optr i0 0)) (ha1 : ev (lk tsl) x1 = some (.own i1 0 m 1)) (hH0 : lkH hsl i0 = some (cRd bs p)) (hH1 : lkH hsl i1 = some cs) (hcs : NumL cs xs)
  (hdd : Go.AL.distinct [i0,i1] = true) (hm : m = xs.length) (hb : bs.length ≤ 2000) (hp : p ≤ 1048576) (h0 : 0 < xs.length) (hn : xs.length ≤ 1048576) (hM : Nat.ble (nidl + 0) big = true) (hN : Nat.blt d N = true) {md' : Md}
  [hmd : MdA md (rOs [x0,x1] ++ [.inr i0,.inr i1]) [.inr i0,.inr i1,.inl d] md']
  (kk : RW Tryz.prog N all Q md' rest ⟨(d,iv (numF bs p xs)) :: tsl,wrH hsl [(i0,some (cRd bs (p + 1))),(i1,none)],nidl + 0,z0⟩) : RW Tryz.prog N all Q md (⟨some d,.call ⟨.value (.func 34),#[x0,x1],tys⟩,ty,pos,af,none⟩ :: rest) ⟨tsl,hsl,nidl,z0⟩ := by
 have h := hcs.h
 subst hm h
 exact rx_num0O ha0 ha1 hH0 hH1 hdd (num0O_c bs p xs hb hp h0 hn) hM hN (hmd := hmd) kk
theorem open_c (bs:List UInt8) (hb:bs.length ≤ 1048576):MC Tryz.prog 32 [sl cU bs] [] 0 (fun _:Unit => True) (fun _ => .optr 0 0) (fun _ => [(0,some (cRd (bs.take 2000) 0))]):=by
 refine mc_start Tryz.func32 Tryz.ntmps32 ?_
 repeat' (first|refine stpb ?_|(refine stp2 ?_ ?_ <;> intro hc hq <;> try (exfalso;omega))|fail)
 ·(refine rq_ret rfl ?_; refine mc_ret () trivial ?_ ⟨sE ?_, trivial⟩)
  ·rfl
  ·rfl
 ·(refine rq_ret rfl ?_; refine mc_ret () trivial ?_ ⟨sE ?_, trivial⟩)
  ·rfl
  ·rw [List.take_of_length_le (by omega)]; rfl
def st (op x y n : Int) : AL.Stmt := .mk op x y n [] []
def one0F (bs : List UInt8) (p : Nat) : AL.Stmt × Nat :=
 let box := 1 + pickF bs p 2
 let owner := numF bs (p + 1) [1,2,1,4,5]
 let c := pickF bs (p + 1 + 1) 11
 if c = 0 then (st 1 0 0 (pickF bs (p + 1 + 1 + 1) 10),p + 4)
 else if c = 1 then (st 2 box 0 (pickF bs (p + 1 + 1 + 1) 10),p + 4)
 else if c = 2 then (st 3 box (3 - box) 0,p + 3)
 else if c = 3 then (st 4 3 owner 0,p + 3)
 else if c = 4 ∨ c = 5 then (st 5 4 (numF bs (p + 1 + 1 + 1) [1,2,1,5]) 0,p + 4)
 else if c = 6 then (st 6 0 (numF bs (p + 1 + 1 + 1) [3,4,1,2,5]) 0,p + 4)
 else if c = 7 then (st 7 (numF bs (p + 1 + 1 + 1) [4,1,2,5]) 0 0,p + 4)
 else if c = 8 then (st 8 box 0 0,p + 3)
 else (st 5 5 (numF bs (p + 1 + 1 + 1) [4,1,2]) 0,p + 4)
def someL (one : Nat → AL.Stmt × Nat) (s : AL.Stmt) (p : Nat) : Nat → List AL.Stmt × Nat
 | 0 => ([s],p)
 | k + 1 => ((someL one s p k).1 ++ [(one (someL one s p k).2).1],(one (someL one s p k).2).2)
def oneN (bs : List UInt8) : Nat → Nat → AL.Stmt × Nat
 | 0,p => one0F bs p
 | d + 1, p =>
  let c := pickF bs (p + 1 + 1) 11
  if c = 9 then
   let r := someL (oneN bs d) (st 2 1 0 (pickF bs (p + 1 + 1 + 1 + 1) 10)) (p + 1 + 1 + 1 + 1 + 1) (pickF bs (p + 1 + 1 + 1) 3).toNat
   let e := one0F bs r.2
   (.mk 9 0 0 0 r.1 [e.1],e.2)
  else if c = 10 then
   let a := one0F bs (p + 1 + 1 + 1)
   let b := one0F bs a.2
   (.mk 10 0 0 0 [a.1,b.1] [],b.2)
  else one0F bs p
def oneF (bs : List UInt8) (d : Int) (p : Nat) : AL.Stmt × Nat := oneN bs d.toNat p
def someF (bs : List UInt8) (d n : Int) (p : Nat) : List AL.Stmt × Nat := someL (oneF bs d) (st 2 1 0 (pickF bs p 10)) (p + 1) n.toNat
theorem one0_p (bs:List UInt8) (p:Nat):(one0F bs p).2 ≤ p + 4:=by
 unfold one0F;dsimp only;repeat' split
 all_goals omega
theorem one0_n (bs:List UInt8) (p:Nat):cntS (one0F bs p).1 = 1:=by
 unfold one0F st;dsimp only;repeat' split
 all_goals simp [cntS,cntL]
theorem someL_p {one:Nat → AL.Stmt × Nat}{c:Nat}(h:∀ p,(one p).2 ≤ p + c) (s:AL.Stmt) (p:Nat):∀ k,(someL one s p k).2 ≤ p + k * c
 | 0 => by simp [someL]
 | k + 1 => by
  have := someL_p h s p k
  have := h (someL one s p k).2
  simp only [someL,Nat.succ_mul]; omega
theorem someL_n {one:Nat → AL.Stmt × Nat}{c:Nat}(h:∀ p,cntS (one p).1 ≤ c) (s:AL.Stmt) (p:Nat):∀ k,cntL (someL one s p k).1 ≤ cntS s + k * c
 | 0 => by simp [someL,cntL]
 | k + 1 => by
  have := someL_n h s p k
  have := h (someL one s p k).2
  simp only [someL,Nat.succ_mul,cntL_append,cntL]; omega
def cstP : Nat → Nat
 | 0 => 4
 | d + 1 => 9 + 2 * cstP d
def cstN : Nat → Nat
 | 0 => 1
 | d + 1 => 3 + 2 * cstN d
theorem k3 (bs:List UInt8) (p:Nat):(pickF bs p 3).toNat ≤ 2 := by have := pickF_bd bs p 3;omega
theorem oneN_p (bs:List UInt8):∀ d p,(oneN bs d p).2 ≤ p + cstP d
 | 0,p => one0_p bs p
 | d + 1, p => by
  have h0 := one0_p bs p
  have h1 := someL_p (oneN_p bs d) (st 2 1 0 (pickF bs (p + 1 + 1 + 1 + 1) 10)) (p + 1 + 1 + 1 + 1 + 1) (pickF bs (p + 1 + 1 + 1) 3).toNat
  have h2 := k3 bs (p + 1 + 1 + 1)
  have h3 : (pickF bs (p + 1 + 1 + 1) 3).toNat * cstP d ≤ 2 * cstP d := Nat.mul_le_mul_right _ h2
  have h4 := one0_p bs (someL (oneN bs d) (st 2 1 0 (pickF bs (p + 1 + 1 + 1 + 1) 10)) (p + 1 + 1 + 1 + 1 + 1) (pickF bs (p + 1 + 1 + 1) 3).toNat).2
  have h5 := one0_p bs (p + 1 + 1 + 1)
  have h6 := one0_p bs (one0F bs (p + 1 + 1 + 1)).2
  have h7 : 1 ≤ cstP d := by cases d <;> simp only [cstP] <;> omega
  simp only [oneN,cstP]
  split
  ·dsimp only;omega
  ·split
   ·dsimp only;omega
   ·omega
theorem oneN_n (bs:List UInt8):∀ d p,cntS (oneN bs d p).1 ≤ cstN d
 | 0,p => by rw [oneN,one0_n]; decide
 | d + 1, p => by
  have h0 := one0_n bs p
  have h1 := someL_n (oneN_n bs d) (st 2 1 0 (pickF bs (p + 1 + 1 + 1 + 1) 10)) (p + 1 + 1 + 1 + 1 + 1) (pickF bs (p + 1 + 1 + 1) 3).toNat
  have h2 := k3 bs (p + 1 + 1 + 1)
  have h3 : (pickF bs (p + 1 + 1 + 1) 3).toNat * cstN d ≤ 2 * cstN d := Nat.mul_le_mul_right _ h2
  have h4 := one0_n bs (someL (oneN bs d) (st 2 1 0 (pickF bs (p + 1 + 1 + 1 + 1) 10)) (p + 1 + 1 + 1 + 1 + 1) (pickF bs (p + 1 + 1 + 1) 3).toNat).2
  have h5 := one0_n bs (p + 1 + 1 + 1)
  have h6 := one0_n bs (one0F bs (p + 1 + 1 + 1)).2
  have h7 : cntS (st 2 1 0 (pickF bs (p + 1 + 1 + 1 + 1) 10)) = 1 := by simp [st,cntS,cntL]
  simp only [oneN,cstN]
  split
  ·simp only [cntS,cntL]; omega
  ·split
   ·simp only [cntS,cntL]; omega
   ·omega
theorem oneF_p (bs:List UInt8){d:Int}(h:d ≤ 2) (p:Nat):(oneF bs d p).2 ≤ p + 43:=by
 have h1 := oneN_p bs d.toNat p
 have h2 : cstP d.toNat ≤ 43 := by
  have : d.toNat = 0 ∨ d.toNat = 1 ∨ d.toNat = 2 := by omega
  rcases this with h|h|h <;> rw [h] <;> decide
 exact Nat.le_trans h1 (by omega)
theorem oneF_n (bs:List UInt8){d:Int}(h:d ≤ 2) (p:Nat):cntS (oneF bs d p).1 ≤ 13:=by
 have h1 := oneN_n bs d.toNat p
 have h2 : cstN d.toNat ≤ 13 := by
  have : d.toNat = 0 ∨ d.toNat = 1 ∨ d.toNat = 2 := by omega
  rcases this with h|h|h <;> rw [h] <;> decide
 exact Nat.le_trans h1 h2
theorem someL_len {one:Nat → AL.Stmt × Nat}(s:AL.Stmt) (p:Nat):∀ k,(someL one s p k).1.length = k + 1
 | 0 => rfl
 | k + 1 => by simp only [someL,List.length_append,someL_len s p k,List.length_cons,List.length_nil]
theorem someF_len (bs:List UInt8) (d:Int) (n p:Nat):(someF bs d (n:Int) p).1.length = n + 1 := someL_len _ _ _
theorem someF_S (bs:List UInt8) (d:Int) (k p:Nat):someF bs d ((k + 1:Nat):Int) p = ((someF bs d (k:Int) p).1 ++ [(oneF bs d (someF bs d (k:Int) p).2).1],(oneF bs d (someF bs d (k:Int) p).2).2) := rfl
theorem app_stmt {xs:List AL.Stmt}{m:Nat}{s:AL.Stmt}(hm:m = xs.length):((flat cStmt xs).drop 0).take (m * 6) ++ [iv s.op,iv s.x,iv s.y,iv s.n,sl cStmt s.th,sl cStmt s.el] = flat cStmt (xs ++ [s]) := app_flat hm (cStmt_def s).symm
def uOp (s : AL.Stmt) (a : Int) : AL.Stmt := .mk a s.x s.y s.n s.th s.el
def uX (s : AL.Stmt) (a : Int) : AL.Stmt := .mk s.op a s.y s.n s.th s.el
def uY (s : AL.Stmt) (a : Int) : AL.Stmt := .mk s.op s.x a s.n s.th s.el
def uN (s : AL.Stmt) (a : Int) : AL.Stmt := .mk s.op s.x s.y a s.th s.el
theorem st_sop {xs:List AL.Stmt}{k:Nat}{a:Int}(hk:k < xs.length):spl (flat cStmt xs) (0 + k * 6 + 0) [iv a] = flat cStmt (xs.set k (uOp xs[k]! a)) := st_flat hk (by simp) (by rw [cStmt_def,cStmt_def]; rfl)
theorem st_sx {xs:List AL.Stmt}{k:Nat}{a:Int}(hk:k < xs.length):spl (flat cStmt xs) (0 + k * 6 + 1) [iv a] = flat cStmt (xs.set k (uX xs[k]! a)) := st_flat hk (by simp) (by rw [cStmt_def,cStmt_def]; rfl)
theorem st_sy {xs:List AL.Stmt}{k:Nat}{a:Int}(hk:k < xs.length):spl (flat cStmt xs) (0 + k * 6 + 2) [iv a] = flat cStmt (xs.set k (uY xs[k]! a)) := st_flat hk (by simp) (by rw [cStmt_def,cStmt_def]; rfl)
theorem st_sn {xs:List AL.Stmt}{k:Nat}{a:Int}(hk:k < xs.length):spl (flat cStmt xs) (0 + k * 6 + 3) [iv a] = flat cStmt (xs.set k (uN xs[k]! a)) := st_flat hk (by simp) (by rw [cStmt_def,cStmt_def]; rfl)
theorem someF_p (bs:List UInt8){d:Int}(h:d ≤ 2) (n:Int) (p:Nat):(someF bs d n p).2 ≤ p + 1 + n.toNat * 43 := someL_p (oneF_p bs h) _ _ _
theorem someF_n (bs:List UInt8){d:Int}(h:d ≤ 2) (n:Int) (p:Nat):cntL (someF bs d n p).1 ≤ 1 + n.toNat * 13:=by
 have h7 : cntS (st 2 1 0 (pickF bs p 10)) = 1 := by simp [st,cntS,cntL]
 have := someL_n (oneF_n bs h) (st 2 1 0 (pickF bs p 10)) (p + 1) n.toNat
 rw [h7] at this
 exact this
theorem oneF_S (bs:List UInt8){d:Int}(h:0 < d) (p:Nat):oneF bs d p = 
  let c := pickF bs (p + 1 + 1) 11
  if c = 9 then
   let r := someF bs (d - 1) (pickF bs (p + 1 + 1 + 1) 3) (p + 1 + 1 + 1 + 1)
   let e := oneF bs 0 r.2
   (.mk 9 0 0 0 r.1 [e.1],e.2)
  else if c = 10 then
   let a := oneF bs 0 (p + 1 + 1 + 1)
   let b := oneF bs 0 a.2
   (.mk 10 0 0 0 [a.1,b.1] [],b.2)
  else one0F bs p := by
 have : d.toNat = (d - 1).toNat + 1 := by omega
 simp only [oneF,this,oneN,someF]
 rfl
theorem flat1 (s:AL.Stmt):flat cStmt [s] = [iv s.op,iv s.x,iv s.y,iv s.n,sl cStmt s.th,sl cStmt s.el] := by simp [flat,cStmt_def]
theorem flat2 (s t:AL.Stmt):flat cStmt [s,t] = [iv s.op,iv s.x,iv s.y,iv s.n,sl cStmt s.th,sl cStmt s.el,iv t.op,iv t.x,iv t.y,iv t.n,sl cStmt t.th,sl cStmt t.el] := by simp [flat,cStmt_def]
theorem oneF_b (bs:List UInt8){d:Int}(h0:0 ≤ d) (p:Nat) (h:¬ 0 < d ∨ (pickF bs (p + 1 + 1) 11 ≠ 9 ∧ pickF bs (p + 1 + 1) 11 ≠ 10)):oneF bs d p = one0F bs p:=by
 by_cases hd : 0 < d
 ·rw [oneF_S bs hd p]
  dsimp only
  rw [if_neg (by omega),if_neg (by omega)]
 ·have : d = 0 := by omega
  subst this;rfl
theorem oneF_9 (bs:List UInt8){d:Int}(hd:0 < d) (p:Nat) (h:pickF bs (p + 1 + 1) 11 = 9):oneF bs d p = (.mk 9 0 0 0 (someF bs (d - 1) (pickF bs (p + 1 + 1 + 1) 3) (p + 1 + 1 + 1 + 1)).1 [(oneF bs 0 (someF bs (d - 1) (pickF bs (p + 1 + 1 + 1) 3) (p + 1 + 1 + 1 + 1)).2).1],(oneF bs 0 (someF bs (d - 1) (pickF bs (p + 1 + 1 + 1) 3) (p + 1 + 1 + 1 + 1)).2).2):=by
 rw [oneF_S bs hd p]
 dsimp only
 rw [if_pos h]
theorem oneF_10 (bs:List UInt8){d:Int}(hd:0 < d) (p:Nat) (h:pickF bs (p + 1 + 1) 11 = 10):oneF bs d p = (.mk 10 0 0 0 [(oneF bs 0 (p + 1 + 1 + 1)).1,(oneF bs 0 (oneF bs 0 (p + 1 + 1 + 1)).2).1] [],(oneF bs 0 (oneF bs 0 (p + 1 + 1 + 1)).2).2):=by
 rw [oneF_S bs hd p]
 dsimp only
 rw [if_neg (by omega),if_pos h]
theorem rx_l1One {bs:List UInt8}{p:Nat}{ts:List Int}{dp:Int}{x0 x1 x2:Operand}{i0:Nat}(ha0:ev (lk tsl) x0 = some (.optr i0 0)) (ha1:ev (lk tsl) x1 = some (sl cI ts)) (ha2:ev (lk tsl) x2 = some (iv dp)) (hH0:lkH hsl i0 = some (cRd bs p)) (hmc:MC Tryz.prog 146 [.optr 0 0,sl cI ts,iv dp] [(0,some (cRd bs p))] 1 (fun _:Unit => True) (fun _ => aStmt (oneF bs dp p).1) (fun _ => [(0,some (cRd bs (oneF bs dp p).2))])) (hM:Nat.ble (nidl + 0) big = true) (hN:Nat.blt d N = true){md':Md}[hmd:MdA md (rOs [x0,x1,x2] ++ [.inr i0]) (List.map Sum.inr (List.map Prod.fst ([(i0,some (cRd bs (oneF bs dp p).2))]:List (Nat × Option (List AV)))) ++ [.inl d]) md'] (kk:RW Tryz.prog N all Q md' rest ⟨(d,aStmt (oneF bs dp p).1) :: tsl,wrH hsl [(i0,some (cRd bs (oneF bs dp p).2))],nidl + 0,z0⟩):RW Tryz.prog N all Q md (⟨some d,.call ⟨.value (.func 146),#[x0,x1,x2],tys⟩,ty,pos,af,none⟩ :: rest) ⟨tsl,hsl,nidl,z0⟩:=by
 exact rx_mcallA (l := [x0,x1,x2]) [i0] 1 [(i0,some (cRd bs (oneF bs dp p).2))] hmc (avs := [.optr i0 0,sl cI ts,iv dp]) (by simp only [evL,ha0,ha1,ha2]) rfl hM hN (md' := md') (hmd := hmd) kk
theorem rx_l1Some {bs:List UInt8}{p:Nat}{ts:List Int}{dp cn:Int}{x0 x1 x2 x3:Operand}{i0:Nat}(ha0:ev (lk tsl) x0 = some (.optr i0 0)) (ha1:ev (lk tsl) x1 = some (sl cI ts)) (ha2:ev (lk tsl) x2 = some (iv dp)) (ha3:ev (lk tsl) x3 = some (iv cn)) (hH0:lkH hsl i0 = some (cRd bs p)) (hmc:MC Tryz.prog 98 [.optr 0 0,sl cI ts,iv dp,iv cn] [(0,some (cRd bs p))] 1 (fun _:Unit => True) (fun _ => sl cStmt (someF bs dp cn p).1) (fun _ => [(0,some (cRd bs (someF bs dp cn p).2))])) (hM:Nat.ble (nidl + 0) big = true) (hN:Nat.blt d N = true){md':Md}[hmd:MdA md (rOs [x0,x1,x2,x3] ++ [.inr i0]) (List.map Sum.inr (List.map Prod.fst ([(i0,some (cRd bs (someF bs dp cn p).2))]:List (Nat × Option (List AV)))) ++ [.inl d]) md'] (kk:RW Tryz.prog N all Q md' rest ⟨(d,sl cStmt (someF bs dp cn p).1) :: tsl,wrH hsl [(i0,some (cRd bs (someF bs dp cn p).2))],nidl + 0,z0⟩):RW Tryz.prog N all Q md (⟨some d,.call ⟨.value (.func 98),#[x0,x1,x2,x3],tys⟩,ty,pos,af,none⟩ :: rest) ⟨tsl,hsl,nidl,z0⟩:=by
 exact rx_mcallA (l := [x0,x1,x2,x3]) [i0] 1 [(i0,some (cRd bs (someF bs dp cn p).2))] hmc (avs := [.optr i0 0,sl cI ts,iv dp,iv cn]) (by simp only [evL,ha0,ha1,ha2,ha3]) rfl hM hN (md' := md') (hmd := hmd) kk
attribute [local irreducible] pickF
theorem l1One_c0 (D:Int) (hD0:0 ≤ D) (hD:D ≤ 2) (l1One_ih:∀ bs p ts,0 < D → bs.length ≤ 2000 → p ≤ 900000 → ∀ dp:Int,dp = 0 → MC Tryz.prog 146 [.optr 0 0,sl cI ts,iv dp] [(0,some (cRd bs p))] 1 (fun _:Unit => True) (fun _ => aStmt (oneF bs dp p).1) (fun _ => [(0,some (cRd bs (oneF bs dp p).2))])) (l1Some_ih:∀ bs (p:Nat) ts cn,0 < D → bs.length ≤ 2000 → (p:Int) ≤ 850000 - 100000 * (D - 1) → 0 ≤ cn → cn ≤ 2 → ∀ dp:Int,dp = D - 1 → MC Tryz.prog 98 [.optr 0 0,sl cI ts,iv dp,iv cn] [(0,some (cRd bs p))] 1 (fun _:Unit => True) (fun _ => sl cStmt (someF bs dp cn p).1) (fun _ => [(0,some (cRd bs (someF bs dp cn p).2))])) (bs:List UInt8) (p:Nat) (ts:List Int) (dp:Int) (hd:dp = D) (hb:bs.length ≤ 2000) (hp:(p:Int) ≤ 900000 - 100000 * D):MC Tryz.prog 146 [.optr 0 0,sl cI ts,iv dp] [(0,some (cRd bs p))] 1 (fun _:Unit => True) (fun _ => aStmt (oneF bs dp p).1) (fun _ => [(0,some (cRd bs (oneF bs dp p).2))]):=by
 subst hd
 have h0 := pickF_bd bs p 2
 have h2 := pickF_bd bs (p + 1 + 1) 11
 have h3 := pickF_bd bs (p + 1 + 1 + 1) 3
 have h3' := k3 bs (p + 1 + 1 + 1)
 have h4 := oneF_p bs (d := 0) (by omega) (p + 1 + 1 + 1)
 have h5 := someF_p bs (d := dp - 1) (by omega) (pickF bs (p + 1 + 1 + 1) 3) (p + 1 + 1 + 1 + 1)
 have h6 : (pickF bs (p + 1 + 1 + 1) 3).toNat * 43 ≤ 2 * 43 := Nat.mul_le_mul_right _ h3'
 refine mc_start Tryz.func146 Tryz.ntmps146 ?_
 repeat' (first|(apply id_rw;first|(apply rx_buildSliceI (t := _);rfl;rfl;rfl;(first|exact (rfl:_=some [_,_,_])|exact (rfl:_=some [_,_,_,_])|exact (rfl:_=some [_,_,_,_,_])|exact (rfl:_=some [_,_,_,_,_,_])|rfl);rfl;rfl)|(first|(apply rx_pick;rfl;rfl;(rfl);(apply pick_c <;> (first|assumption|omega));rfl;rfl)|(apply rx_num;rfl;rfl;infer_instance;rfl;(rfl);assumption;omega;(decide);(decide);rfl;rfl)|(apply rx_l1Some;rfl;rfl;rfl;rfl;(rfl);(apply l1Some_ih <;> (first|assumption|omega));rfl;rfl)|(apply rx_l1One;rfl;rfl;rfl;(rfl);(apply l1One_ih <;> (first|assumption|omega));rfl;rfl)))|refine stpb ?_|(refine stp2 ?_ ?_ <;> intro hc hq <;> try (exfalso;omega))|fail)
 all_goals try (refine rq_ret rfl ?_; refine mc_ret () trivial ?_ ⟨sE ?_,trivial⟩)
 all_goals try (rw [oneF_b bs hD0 p (by omega)]; unfold one0F; dsimp only; repeat' split
                all_goals (first|rfl|(exfalso;omega));done)
 iterate 2
  rewrite [oneF_9 bs (d := dp) (by assumption) p (by assumption)]
  first|rfl|(refine Eq.trans (b := AV.agg [_,_,_,_,_,AV.imm 1 (flat cStmt [_])]) ?_ rfl;rw [flat1]; rfl)
 iterate 2
  rewrite [oneF_10 bs (d := dp) (by omega) p (by omega)]
  first|rfl|(refine Eq.trans (b := AV.agg [_,_,_,_,AV.imm 2 (flat cStmt [_,_]),_]) ?_ rfl;rw [flat2]; rfl)
theorem l1Some_c0 (D:Int) (hD0:0 ≤ D) (hD:D ≤ 2) (l1One_ih:∀ bs (p:Nat) ts,bs.length ≤ 2000 → (p:Int) ≤ 900000 - 100000 * D → ∀ dp:Int,dp = D → MC Tryz.prog 146 [.optr 0 0,sl cI ts,iv dp] [(0,some (cRd bs p))] 1 (fun _:Unit => True) (fun _ => aStmt (oneF bs dp p).1) (fun _ => [(0,some (cRd bs (oneF bs dp p).2))])) (bs:List UInt8) (p:Nat) (ts:List Int) (dp:Int) (hd:dp = D) (cn:Int) (hb:bs.length ≤ 2000) (hp:(p:Int) ≤ 850000 - 100000 * D) (hc0:0 ≤ cn) (hc:cn ≤ 8):MC Tryz.prog 98 [.optr 0 0,sl cI ts,iv dp,iv cn] [(0,some (cRd bs p))] 1 (fun _:Unit => True) (fun _ => sl cStmt (someF bs dp cn p).1) (fun _ => [(0,some (cRd bs (someF bs dp cn p).2))]):=by
 subst hd
 refine mc_start Tryz.func98 Tryz.ntmps98 ?_
 repeat' (first|(apply id_rw;(apply rx_pick;rfl;rfl;(rfl);(apply pick_c <;> (first|assumption|omega));rfl;rfl))|refine stpb ?_|fail)
 refine aw_loopA (σ := Nat × List AL.Stmt × Nat) [0,1,2,3] [] (fun k => [(10,iv (k.1 : Int)),(9,.own 1 0 (k.1 + 1) 6)]) (fun k => [(0,some (cRd bs k.2.2)),(1,some (flat cStmt k.2.1))]) (fun k => (k.1 : Int) ≤ cn ∧ k.2 = someF bs dp (k.1 : Int) p) (fun k => cn.toNat - k.1) (0,[st 2 1 0 (pickF bs p 10)],p + 1) ⟨by omega,rfl⟩ ?_
 rintro ⟨k,xs,q⟩ ⟨hk,hse⟩
 dsimp only at hk hse ⊢
 have hp2 := someF_p bs (d := dp) (by omega) (k : Int) p
 have hkk : (k : Int).toNat * 43 ≤ 8 * 43 := Nat.mul_le_mul_right _ (by omega)
 have hln := someF_len bs dp k p
 rw [← hse] at hp2 hln
 dsimp only at hp2 hln
 repeat' (first|(apply id_rw;first|(apply rx_buildSliceI (t := _);rfl;rfl;rfl;(exact (rfl:_=some [_,_,_,_,_,_]));rfl;rfl)|(apply rx_l1One;rfl;rfl;rfl;(rfl);(apply l1One_ih <;> (first|assumption|omega));rfl;rfl))|refine stpb ?_|(refine stp2 ?_ ?_ <;> intro hc hq <;> try (exfalso;omega))|fail)
 ·(refine ex3 (k + 1, _, _) (Le.renA [(1, 3)]) ?_ ?_)
  ·dsimp only
   refine ⟨by omega,?_⟩
   rw [someF_S,← hse]
  ·dsimp only;omega
 ·have hke : (k : Int) = cn := by omega
  rw [hke] at hse
  (refine rq_le (Le.frzD (d := 8) (i := 1) rfl rfl) ?_; refine rq_ret rfl ?_)
  refine mc_ret () trivial ?_ ⟨sE ?_,trivial⟩
  ·rw [← hse]; show AV.imm (k + 1) (flat cStmt xs) = AV.imm xs.length (flat cStmt xs)
   rw [hln]
  ·rw [← hse]
theorem l1One_both:∀ D:Nat,D ≤ 2 → (∀ bs (p:Nat) ts,bs.length ≤ 2000 → (p:Int) ≤ 900000 - 100000 * (D:Int) → ∀ dp:Int,dp = (D:Int) → MC Tryz.prog 146 [.optr 0 0,sl cI ts,iv dp] [(0,some (cRd bs p))] 1 (fun _:Unit => True) (fun _ => aStmt (oneF bs dp p).1) (fun _ => [(0,some (cRd bs (oneF bs dp p).2))])) ∧ (∀ bs (p:Nat) ts (cn:Int),bs.length ≤ 2000 → (p:Int) ≤ 850000 - 100000 * (D:Int) → 0 ≤ cn → cn ≤ 8 → ∀ dp:Int,dp = (D:Int) → MC Tryz.prog 98 [.optr 0 0,sl cI ts,iv dp,iv cn] [(0,some (cRd bs p))] 1 (fun _:Unit => True) (fun _ => sl cStmt (someF bs dp cn p).1) (fun _ => [(0,some (cRd bs (someF bs dp cn p).2))]))
 | 0, _ => by
  have h1 : ∀ bs (p : Nat) ts, bs.length ≤ 2000 → (p : Int) ≤ 900000 - 100000 * ((0 : Nat) : Int) → ∀ dp : Int, dp = ((0 : Nat) : Int) → MC Tryz.prog 146 [.optr 0 0, sl cI ts, iv dp] [(0, some (cRd bs p))] 1 (fun _ : Unit => True) (fun _ => aStmt (oneF bs dp p).1) (fun _ => [(0, some (cRd bs (oneF bs dp p).2))]) :=
   fun bs p ts hb hp dp hd => l1One_c0 ((0 : Nat) : Int) (by omega) (by omega) (fun _ _ _ h => by omega) (fun _ _ _ _ h => by omega) bs p ts dp hd hb hp
  exact ⟨h1,fun bs p ts cn hb hp h0 h8 dp hd => l1Some_c0 ((0 : Nat) : Int) (by omega) (by omega) h1 bs p ts dp hd cn hb hp h0 h8⟩
 | D + 1, hD => by
  have ih := l1One_both D (by omega)
  have i0 := l1One_both 0 (by omega)
  have h1 : ∀ bs (p : Nat) ts, bs.length ≤ 2000 → (p : Int) ≤ 900000 - 100000 * ((D + 1 : Nat) : Int) → ∀ dp : Int, dp = ((D + 1 : Nat) : Int) → MC Tryz.prog 146 [.optr 0 0, sl cI ts, iv dp] [(0, some (cRd bs p))] 1 (fun _ : Unit => True) (fun _ => aStmt (oneF bs dp p).1) (fun _ => [(0, some (cRd bs (oneF bs dp p).2))]) :=
   fun bs p ts hb hp dp hd => l1One_c0 ((D + 1 : Nat) : Int) (by omega) (by omega) (fun bs p ts _ hb hp dp hd => i0.1 bs p ts hb (by omega) dp (by omega)) (fun bs p ts cn _ hb hp h0 h2 dp hd => ih.2 bs p ts cn hb (by omega) h0 (by omega) dp (by omega)) bs p ts dp hd hb hp
  exact ⟨h1,fun bs p ts cn hb hp h0 h8 dp hd => l1Some_c0 ((D + 1 : Nat) : Int) (by omega) (by omega) h1 bs p ts dp hd cn hb hp h0 h8⟩
theorem l1Some_c (bs:List UInt8) (p:Nat) (ts:List Int) (dp cn:Int) (hb:bs.length ≤ 2000) (hp:p ≤ 600000) (h0:0 ≤ cn) (h8:cn ≤ 8) (hd0:0 ≤ dp) (hd:dp ≤ 2):MC Tryz.prog 98 [.optr 0 0,sl cI ts,iv dp,iv cn] [(0,some (cRd bs p))] 1 (fun _:Unit => True) (fun _ => sl cStmt (someF bs dp cn p).1) (fun _ => [(0,some (cRd bs (someF bs dp cn p).2))]) :=
 (l1One_both dp.toNat (by omega)).2 bs p ts cn hb (by omega) h0 h8 dp (by omega)
end Go.Proofs.YtjnhlgpbojggnaaGreatDoor
