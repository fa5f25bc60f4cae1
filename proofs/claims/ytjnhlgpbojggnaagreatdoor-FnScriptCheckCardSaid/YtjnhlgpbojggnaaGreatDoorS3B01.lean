/-
 A part of the proofs over this program: rules and contracts of its functions (the contracts).
-/
import Derived.Test.YtjnhlgpbojggnaaGreatDoorS3A10
import Derived.Test.YtjnhlgpbojggnaaGreatDoorRows
set_option linter.unusedVariables false
set_option linter.unusedSimpArgs false
set_option maxHeartbeats 8000000
set_option maxRecDepth 4000
attribute [local irreducible] Go.AL.RW Go.AL.AW Go.AL.Stop
namespace Go.Proofs.YtjnhlgpbojggnaaGreatDoor
open Go.AL
theorem within_c (a b c:Int):PC Tryz.prog 35 [iv a,iv b,iv c] (fun r => r = bv (decide (b ≤ a) && decide (a ≤ c))):=by
 refine pc_start Tryz.func35 Tryz.ntmps35 ?_
 repeat' (first|refine stpb ?_|(refine stp3 ?_ ?_ <;> intro hg hq <;> try (exfalso;omega))|refine stpr ?_|fail)
 all_goals (refine ⟨?_,rfl⟩; simp only [oneOf,AV.v.injEq,Value.bool.injEq,Value.int.injEq,true_and])
 all_goals grind
theorem isRefI_c (t:Int):PC Tryz.prog 265 [iv t] (fun r => r = bv (isRef t)):=by
 refine pc_start Tryz.func265 Tryz.ntmps265 ?_
 repeat' (first|refine stpb ?_|(refine stp3 ?_ ?_ <;> intro hg hq <;> try (exfalso;omega))|refine stpr ?_|fail)
 all_goals (refine ⟨?_,rfl⟩; simp only [oneOf,AV.v.injEq,Value.bool.injEq,Value.int.injEq,true_and])
 all_goals grind [isRef]
theorem isRefS_c (t:Int):PC Tryz.prog 284 [iv t] (fun r => r = bv (isRef t)):=by
 refine pc_start Tryz.func284 Tryz.ntmps284 ?_
 repeat' (first|refine stpb ?_|(refine stp3 ?_ ?_ <;> intro hg hq <;> try (exfalso;omega))|refine stpr ?_|fail)
 all_goals (refine ⟨?_,rfl⟩; simp only [oneOf,AV.v.injEq,Value.bool.injEq,Value.int.injEq,true_and])
 all_goals grind [isRef]
theorem isHolder_c (t:Int):PC Tryz.prog 209 [iv t] (fun r => r = bv (decide (t = 2) || isRef t)):=by
 refine pc_start Tryz.func209 Tryz.ntmps209 ?_
 repeat' (first|(apply id_rw;(apply rx_callE (k := 265);rfl;(apply isRefI_c);(rfl);rfl))|refine stpb ?_|(refine stp3 ?_ ?_ <;> intro hg hq <;> try (exfalso;omega))|refine stpr ?_|fail)
 all_goals (refine ⟨?_,rfl⟩; simp only [oneOf,AV.v.injEq,Value.bool.injEq,Value.int.injEq,true_and])
 all_goals grind
theorem isBranch_c (t:Int):PC Tryz.prog 143 [iv t] (fun r => r = bv (decide (t = 9) || decide (t = 10))):=by
 refine pc_start Tryz.func143 Tryz.ntmps143 ?_
 repeat' (first|refine stpb ?_|(refine stp3 ?_ ?_ <;> intro hg hq <;> try (exfalso;omega))|refine stpr ?_|fail)
 all_goals (refine ⟨?_,rfl⟩; simp only [oneOf,AV.v.injEq,Value.bool.injEq,Value.int.injEq,true_and])
 all_goals grind
theorem l1Type_c (ts:List Int) (v:Int):PC Tryz.prog 264 [sl cI ts,iv v] (fun r => r = iv (typeAt ts v)):=by
 refine pc_start Tryz.func264 Tryz.ntmps264 ?_
 repeat' (first|refine stpb ?_|(refine stp2 ?_ ?_ <;> intro hc hq <;> try (exfalso;omega))|(refine stp3 ?_ ?_ <;> intro hg hq <;> try (exfalso;omega))|refine stpr ?_|fail)
 all_goals (refine ⟨?_,rfl⟩; simp only [oneOf,AV.v.injEq,Value.bool.injEq,Value.int.injEq,true_and])
 all_goals grind [typeAt]
theorem typeOf_c (ts:List Int) (v:Int) (hl:ts.length ≤ 1048576):PC Tryz.prog 208 [sl cI ts,iv v] (fun r => r = iv (typeAt ts v)):=by
 refine pc_start Tryz.func208 Tryz.ntmps208 ?_
 repeat' (first|(apply id_rw;(apply rx_callE (k := 35);rfl;(apply within_c);(rfl);rfl))|refine stpb ?_|(refine stp2 ?_ ?_ <;> intro hc hq <;> try (exfalso;omega))|refine stpr ?_|fail)
 all_goals (refine ⟨?_,rfl⟩; simp only [oneOf,AV.v.injEq,Value.bool.injEq,Value.int.injEq,true_and])
 all_goals grind [typeAt]
theorem simpleOk_c (ts:List Int) (s:AL.Stmt) (hl:typesOk ts = true):PC Tryz.prog 144 [sl cI ts,aStmt s] (fun r => r = bv (s.th.isEmpty && s.el.isEmpty && simpleF ts s)):=by
 have hl2 := typesOk_len hl
 have hx := typeAt_bd hl s.x
 have hy := typeAt_bd hl s.y
 refine pc_start Tryz.func144 Tryz.ntmps144 ?_
 repeat' (first|(apply id_rw;(first|(apply rx_callE (k := 35);rfl;(apply within_c);(rfl);rfl)|(apply rx_callE (k := 208);rfl;(apply typeOf_c <;> (omega));exact Pur.pf;rfl)|(apply rx_callE (k := 209);rfl;(apply isHolder_c);(rfl);rfl)))|refine stpb ?_|(refine stp2 ?_ ?_ <;> intro hc hq <;> try (exfalso;omega))|(refine stp3 ?_ ?_ <;> intro hg hq <;> try (exfalso;omega))|refine stpd ?_|refine stpr ?_|fail)
 all_goals (refine ⟨?_,rfl⟩; simp only [oneOf,AV.v.injEq,Value.bool.injEq,Value.int.injEq,true_and])
 all_goals (cases hth : s.th <;> cases hel : s.el <;> simp only [hth,hel,List.length_nil,List.length_cons,List.isEmpty_nil,List.isEmpty_cons,Bool.true_and,Bool.false_and] at *)
 all_goals (try unfold simpleF)
 all_goals (try simp only [isRef,Bool.or_eq_true,Bool.or_eq_false_iff,decide_eq_true_eq,decide_eq_false_iff_not] at *)
 all_goals grind
theorem l1Simple_c (ts:List Int) (s:AL.Stmt) (hl:typesOk ts = true):PC Tryz.prog 205 [sl cI ts,aStmt s] (fun r => r = bv (simpleF ts s)):=by
 have hl2 := typesOk_len hl
 have hx := typeAt_bd hl s.x
 have hy := typeAt_bd hl s.y
 refine pc_start Tryz.func205 Tryz.ntmps205 ?_
 repeat' (first|(apply id_rw;(apply rx_callE (k := 264);rfl;(apply l1Type_c);exact Pur.pf;rfl))|refine stpb ?_|(refine stp2 ?_ ?_ <;> intro hc hq <;> try (exfalso;omega))|(refine stp3 ?_ ?_ <;> intro hg hq <;> try (exfalso;omega))|refine stpr ?_|fail)
 all_goals (refine ⟨?_,rfl⟩; simp only [oneOf,AV.v.injEq,Value.bool.injEq,Value.int.injEq,true_and])
 all_goals (try unfold simpleF)
 all_goals grind
theorem l1Stmt_c0 (ts:List Int) (hl:typesOk ts = true) (m:Nat) (ih:∀ l (d:Int),cntL l < m → 0 ≤ d → d ≤ 1000 → PC Tryz.prog 90 [sl cI ts,sl cStmt l,iv d] (fun r => r = bv (okL ts d.toNat l))) (s:AL.Stmt) (d:Int) (hs:cntS s ≤ m) (hd0:0 ≤ d) (hd:d ≤ 1000) :
  PC Tryz.prog 140 [sl cI ts,aStmt s,iv d] (fun r => r = bv (okS ts d.toNat s)) := by
 rw [okS_int ts d hd0]
 refine pc_start Tryz.func140 Tryz.ntmps140 ?_
 repeat' (first|(apply id_rw;(first|(apply rx_callE (k := 90);rfl;(apply ih <;> (first|omega|(have := cnt_th s;omega)));exact Pur.pf;rfl)|(apply rx_callE (k := 205);rfl;(apply l1Simple_c <;> (assumption));exact Pur.pf;rfl)))|refine stpb ?_|(refine stp2 ?_ ?_ <;> intro hc hq <;> try (exfalso;omega))|(refine stp3 ?_ ?_ <;> intro hg hq <;> try (exfalso;omega))|refine stpr ?_|fail)
 all_goals (refine ⟨?_,rfl⟩; simp only [oneOf,AV.v.injEq,Value.bool.injEq,Value.int.injEq,true_and])
 all_goals (cases hth : s.th <;> cases hel : s.el <;> simp only [hth,hel,List.length_nil,List.length_cons,List.isEmpty_nil,List.isEmpty_cons,Bool.true_and,Bool.false_and] at *)
 all_goals grind
theorem l1Body_c0 (ts:List Int) (hl:typesOk ts = true) (m:Nat) (ih:∀ s (d:Int),cntS s ≤ m → 0 ≤ d → d ≤ 1000 → PC Tryz.prog 140 [sl cI ts,aStmt s,iv d] (fun r => r = bv (okS ts d.toNat s))) (l:List AL.Stmt) (d:Int) (hs:cntL l ≤ m) (hm:m ≤ 100000000) (hd0:0 ≤ d) (hd:d ≤ 1000) :
  PC Tryz.prog 90 [sl cI ts,sl cStmt l,iv d] (fun r => r = bv (okL ts d.toNat l)) := by
 have hlen := cntL_len l
 refine pc_start Tryz.func90 Tryz.ntmps90 ?_
 repeat' (first|refine stpb ?_|fail)
 refine aw_loopA (σ := Nat) [0,1,2] [] (fun k => [(7,iv (k : Int))]) (fun k => []) (fun k => k ≤ l.length ∧ ∀ i,i < k → okS ts d.toNat l[i]! = true) (fun k => l.length - k) (0) ⟨by omega,by omega⟩ ?_
 intro k ⟨hk,hall⟩
 have hck := cntL_at l k
 repeat' (first|(apply id_rw;(apply rx_callE (k := 140);rfl;(apply ih _ d (Nat.le_trans (hck (by omega)) hs) hd0 hd);exact Pur.pf;rfl))|refine stpb ?_|(refine stp2 ?_ ?_ <;> intro hc hq <;> try (exfalso;omega))|refine stpr ?_|fail)
 ·(refine ⟨?_, rfl⟩; simp only [oneOf, AV.v.injEq, Value.bool.injEq, Value.int.injEq, true_and])
  rw [okL_take (k := k) (by omega) hq]
 ·(refine ex3 (k + 1) (Le.renA []) ?_ ?_)
  ·grind
  ·omega
 ·(refine ⟨?_, rfl⟩; simp only [oneOf, AV.v.injEq, Value.bool.injEq, Value.int.injEq, true_and])
  rw [okL_all (fun i hi => hall i (by omega))]
theorem l1_both (ts:List Int) (hl:typesOk ts = true):∀ (m:Nat),m ≤ 100000000 → (∀ s (d:Int),cntS s ≤ m → 0 ≤ d → d ≤ 1000 → PC Tryz.prog 140 [sl cI ts,aStmt s,iv d] (fun r => r = bv (okS ts d.toNat s))) ∧
  (∀ l (d : Int),cntL l ≤ m → 0 ≤ d → d ≤ 1000 → PC Tryz.prog 90 [sl cI ts,sl cStmt l,iv d] (fun r => r = bv (okL ts d.toNat l))) := by
 intro m
 induction m using Nat.strongRecOn with
 | ind m ih =>
  intro hm
  have h1 : ∀ s (d : Int), cntS s ≤ m → 0 ≤ d → d ≤ 1000 → PC Tryz.prog 140 [sl cI ts, aStmt s, iv d] (fun r => r = bv (okS ts d.toNat s)) :=
   fun s d h1 h2 h3 => l1Stmt_c0 ts hl m (fun l d' g1 g2 g3 => (ih (cntL l) g1 (by omega)).2 l d' (Nat.le_refl _) g2 g3) s d h1 h2 h3
  exact ⟨h1,fun l d g1 g2 g3 => l1Body_c0 ts hl m h1 l d g1 hm g2 g3⟩
theorem l1Count_c0 (m0:Nat) (ih:∀ l (most:Int),cntL l < m0 → -1 ≤ most → most ≤ 1000 → PC Tryz.prog 91 [sl cStmt l,iv most] (fun r => r = iv (lcL most 0 l))) (l:List AL.Stmt) (most:Int) (hs:cntL l ≤ m0) (hm:m0 ≤ 100000000) (hd0:-1 ≤ most) (hd:most ≤ 1000) :
  PC Tryz.prog 91 [sl cStmt l,iv most] (fun r => r = iv (lcL most 0 l)) := by
 have hlen := cntL_len l
 have hall := lcL_bd l most 0
 refine pc_start Tryz.func91 Tryz.ntmps91 ?_
 repeat' (first|refine stpb ?_|fail)
 refine aw_loopA (σ := Nat × Int) [0,1] [] (fun k => [(6,iv (k.1 : Int)),(5,iv k.2)]) (fun k => []) (fun k => k.1 ≤ l.length ∧ lcL most k.2 (l.drop k.1) = lcL most 0 l ∧ 0 ≤ k.2 ∧ k.2 ≤ cntL l) (fun k => l.length - k.1) (0,0) ⟨by omega,rfl,by omega,by omega⟩ ?_
 rintro ⟨k,n⟩ ⟨hk,hn,hn0,hn1⟩
 dsimp only at hk hn hn0 hn1 ⊢
 have hck := cntL_at l k
 have hct := cnt_th l[k]!
 have b1 := lcL_bd l[k]!.th (most - n) 0
 have b2 := fun z => lcL_bd l[k]!.el z 0
 have b3 := lcS_bd l[k]! most n
 have b4 := lcL_bd (l.drop (k + 1)) most (lcS most n l[k]!)
 have b5 := lcL_drop most n l k
 rw [lcS_def] at b3 b4 b5
 repeat' (first|(apply id_rw;(apply rx_callE (k := 91);rfl;(apply ih <;> omega);exact Pur.pf;rfl))|refine stpb ?_|(refine stp2 ?_ ?_ <;> intro hc hq <;> try (exfalso;omega))|(refine stp3 ?_ ?_ <;> intro hg hq <;> try (exfalso;omega))|refine stpr ?_|fail)
 ·(refine ex3 (k + 1, n + 1 + lcL (most - n) 0 l[k]!.th + lcL (most - (n + 1 + lcL (most - n) 0 l[k]!.th)) 0 l[k]!.el) (Le.renA []) ?_ ?_)
  ·dsimp only;grind
  ·dsimp only;omega
 ·(refine ex3 (k + 1, n + 1 + lcL (most - n) 0 l[k]!.th) (Le.renA []) ?_ ?_)
  ·dsimp only;grind
  ·dsimp only;omega
 ·(refine ⟨?_, rfl⟩; simp only [oneOf, AV.v.injEq, Value.bool.injEq, Value.int.injEq, true_and])
  rw [← hn,lcL_stop _ _ _ (by omega)]
 ·(refine ⟨?_, rfl⟩; simp only [oneOf, AV.v.injEq, Value.bool.injEq, Value.int.injEq, true_and])
  rw [← hn,lcL_end _ _ _ _ (by omega)]
theorem l1Count_c (l:List AL.Stmt) (most:Int) (hs:cntL l ≤ 100000000) (hd0:-1 ≤ most) (hd:most ≤ 1000) :
  PC Tryz.prog 91 [sl cStmt l,iv most] (fun r => r = iv (lcL most 0 l)) := by
 have h : ∀ (m : Nat), m ≤ 100000000 → ∀ l (most : Int), cntL l ≤ m → -1 ≤ most → most ≤ 1000 → PC Tryz.prog 91 [sl cStmt l, iv most] (fun r => r = iv (lcL most 0 l)) := by
  intro m
  induction m using Nat.strongRecOn with
  | ind m ih =>
   intro hm l most h1 h2 h3
   exact l1Count_c0 m (fun l' most' g1 g2 g3 => ih _ g1 (by omega) l' most' (Nat.le_refl _) g2 g3) l most h1 hm h2 h3
 exact h _ hs l most (Nat.le_refl _) hd0 hd
theorem l1Body_c (ts:List Int) (l:List AL.Stmt) (d:Int) (hl:typesOk ts = true) (hs:cntL l ≤ 100000000) (hd0:0 ≤ d) (hd:d ≤ 1000):PC Tryz.prog 90 [sl cI ts,sl cStmt l,iv d] (fun r => r = bv (okL ts d.toNat l)) :=
 (l1_both ts hl _ hs).2 l d (Nat.le_refl _) hd0 hd
theorem l1Types_c (ts:List Int) (hl:ts.length ≤ 1048576):PC Tryz.prog 89 [sl cI ts] (fun r => r = bv (typesOk ts)):=by
 refine pc_start Tryz.func89 Tryz.ntmps89 ?_
 repeat' (first|refine stpb ?_|fail)
 refine aw_loopA (σ := Nat) [0] [] (fun k => [(3,iv (k : Int))]) (fun k => []) (fun k => k ≤ ts.length ∧ ∀ i,i < k → 1 ≤ ts[i]! ∧ ts[i]! ≤ 4) (fun k => ts.length - k) (0) ⟨by omega,by omega⟩ ?_
 intro k ⟨hk,hall⟩
 repeat' (first|refine stpb ?_|(refine stp2 ?_ ?_ <;> intro hc hq <;> try (exfalso;omega))|(refine stp3 ?_ ?_ <;> intro hg hq <;> try (exfalso;omega))|refine stpr ?_|fail)
 ·(refine ⟨?_, rfl⟩; simp only [oneOf, AV.v.injEq, Value.bool.injEq, Value.int.injEq, true_and])
  unfold typesOk;grind [all_false,all_iff]
 ·(refine ex3 (k + 1) (Le.renA []) ?_ ?_)
  ·grind
  ·omega
 ·(refine ⟨?_, rfl⟩; simp only [oneOf, AV.v.injEq, Value.bool.injEq, Value.int.injEq, true_and])
  unfold typesOk;grind [all_false,all_iff]
 ·(refine ⟨?_, rfl⟩; simp only [oneOf, AV.v.injEq, Value.bool.injEq, Value.int.injEq, true_and])
  unfold typesOk;grind [all_false,all_iff]
theorem validS_c (p:Prg) (hl:p.types.length ≤ 1048576) (hs:cntL p.body ≤ 100000000):PC Tryz.prog 50 [aPrg p] (fun r => r = bv (validF p)):=by
 unfold validF
 cases ht : typesOk p.types
 ·refine pc_start Tryz.func50 Tryz.ntmps50 ?_
  repeat' (first|(apply id_rw;(apply rx_callE (k := 89);rfl;(apply l1Types_c <;> (assumption));exact Pur.pf;rfl))|refine stpb ?_|refine stpr ?_|fail)
  (refine ⟨?_,rfl⟩; simp only [oneOf,AV.v.injEq,Value.bool.injEq,Value.int.injEq,true_and])
  rfl
 ·refine pc_start Tryz.func50 Tryz.ntmps50 ?_
  repeat' (first|(apply id_rw;(first|(apply rx_callE (k := 89);rfl;(apply l1Types_c <;> (assumption));exact Pur.pf;rfl)|(apply rx_callE (k := 90);rfl;(apply l1Body_c <;> (first|assumption|omega));exact Pur.pf;rfl)|(apply rx_callE (k := 91);rfl;(apply l1Count_c <;> (first|assumption|omega));exact Pur.pf;rfl)))|refine stpb ?_|(refine stp3 ?_ ?_ <;> intro hg hq <;> try (exfalso;omega))|refine stpr ?_|fail)
  ·(refine ⟨?_, rfl⟩; simp only [oneOf, AV.v.injEq, Value.bool.injEq, Value.int.injEq, true_and])
   rw [show okL p.types 4 p.body = true from hq]; simp only [Bool.true_and,lcL_le,decide_eq_decide]; omega
  ·(refine ⟨?_, rfl⟩; simp only [oneOf, AV.v.injEq, Value.bool.injEq, Value.int.injEq, true_and])
   rw [show okL p.types 4 p.body = false from hq]; rfl
end Go.Proofs.YtjnhlgpbojggnaaGreatDoor
namespace Go.Proofs.YtjnhlgpbojggnaaGreatDoor
open Go.AL Go.RowKit
variable {N : Nat} {Q : Exit → AS → Prop} {all : Array Oper} {rest : List Oper} {tsl : List (Nat × AV)} {hsl : List (Nat × Option (List AV))} {nidl : Nat} {z0 : Lo} {md : Md} {d : Nat} {ty : TypeId} {pos : String} {af : Array Edge} {tys : Array TypeId}
theorem rx_scan {ts:List Int}{s:AL.Stmt}{nest c:Int}{x0 x1 x2 x3:Operand}{i0:Nat}(ha0:ev (lk tsl) x0 = some (sl cI ts)) (ha1:ev (lk tsl) x1 = some (aStmt s)) (ha2:ev (lk tsl) x2 = some (iv nest)) (ha3:ev (lk tsl) x3 = some (.optr i0 0)) (hH0:lkH hsl i0 = some ([iv c])) (hmc:MC Tryz.prog 95 [sl cI ts,aStmt s,iv nest,.optr 0 0] [(0,some ([iv c]))] 1 (fun _:Unit => True) (fun _ => bv (scS ts nest c s).1) (fun _ => [(0,some ([iv (scS ts nest c s).2]))])) (hM:Nat.ble (nidl + 0) big = true) (hN:Nat.blt d N = true){md':Md}[hmd:MdA md (rOs [x0,x1,x2,x3] ++ [.inr i0]) (List.map Sum.inr (List.map Prod.fst ([(i0,some ([iv (scS ts nest c s).2]))]:List (Nat × Option (List AV)))) ++ [.inl d]) md'] (kk:RW Tryz.prog N all Q md' rest ⟨(d,bv (scS ts nest c s).1) :: tsl,wrH hsl [(i0,some ([iv (scS ts nest c s).2]))],nidl + 0,z0⟩):RW Tryz.prog N all Q md (⟨some d,.call ⟨.value (.func 95),#[x0,x1,x2,x3],tys⟩,ty,pos,af,none⟩ :: rest) ⟨tsl,hsl,nidl,z0⟩:=by
 exact rx_mcallA (l := [x0,x1,x2,x3]) [i0] 1 [(i0,some ([iv (scS ts nest c s).2]))] hmc (avs := [sl cI ts,aStmt s,iv nest,.optr i0 0]) (by simp only [evL,ha0,ha1,ha2,ha3]) rfl hM hN (md' := md') (hmd := hmd) kk
theorem rx_scanAll {ts:List Int}{l:List AL.Stmt}{nest c:Int}{x0 x1 x2 x3:Operand}{i0:Nat}(ha0:ev (lk tsl) x0 = some (sl cI ts)) (ha1:ev (lk tsl) x1 = some (sl cStmt l)) (ha2:ev (lk tsl) x2 = some (iv nest)) (ha3:ev (lk tsl) x3 = some (.optr i0 0)) (hH0:lkH hsl i0 = some ([iv c])) (hmc:MC Tryz.prog 53 [sl cI ts,sl cStmt l,iv nest,.optr 0 0] [(0,some ([iv c]))] 1 (fun _:Unit => True) (fun _ => bv (scL ts nest c l).1) (fun _ => [(0,some ([iv (scL ts nest c l).2]))])) (hM:Nat.ble (nidl + 0) big = true) (hN:Nat.blt d N = true){md':Md}[hmd:MdA md (rOs [x0,x1,x2,x3] ++ [.inr i0]) (List.map Sum.inr (List.map Prod.fst ([(i0,some ([iv (scL ts nest c l).2]))]:List (Nat × Option (List AV)))) ++ [.inl d]) md'] (kk:RW Tryz.prog N all Q md' rest ⟨(d,bv (scL ts nest c l).1) :: tsl,wrH hsl [(i0,some ([iv (scL ts nest c l).2]))],nidl + 0,z0⟩):RW Tryz.prog N all Q md (⟨some d,.call ⟨.value (.func 53),#[x0,x1,x2,x3],tys⟩,ty,pos,af,none⟩ :: rest) ⟨tsl,hsl,nidl,z0⟩:=by
 exact rx_mcallA (l := [x0,x1,x2,x3]) [i0] 1 [(i0,some ([iv (scL ts nest c l).2]))] hmc (avs := [sl cI ts,sl cStmt l,iv nest,.optr i0 0]) (by simp only [evL,ha0,ha1,ha2,ha3]) rfl hM hN (md' := md') (hmd := hmd) kk
theorem scan_c0 (ts:List Int) (htO:typesOk ts = true) (m:Nat) (scanAll_ih:∀ l nest c,cntL l < m → 0 ≤ nest → nest ≤ 4 → 0 ≤ c → c ≤ 30 → MC Tryz.prog 53 [sl cI ts,sl cStmt l,iv nest,.optr 0 0] [(0,some ([iv c]))] 1 (fun _:Unit => True) (fun _ => bv (scL ts nest c l).1) (fun _ => [(0,some ([iv (scL ts nest c l).2]))])) (s:AL.Stmt) (nest c:Int) (hs:cntS s ≤ m) (hn0:0 ≤ nest) (hn:nest ≤ 4) (hc0:0 ≤ c) (hc:c ≤ 30):MC Tryz.prog 95 [sl cI ts,aStmt s,iv nest,.optr 0 0] [(0,some ([iv c]))] 1 (fun _:Unit => True) (fun _ => bv (scS ts nest c s).1) (fun _ => [(0,some ([iv (scS ts nest c s).2]))]):=by
 have ct := cnt_th s
 have hb1 := scL_bd ts s.th (nest + 1) (c + 1)
 refine mc_start Tryz.func95 Tryz.ntmps95 ?_
 repeat' (first|(apply id_rw;(first|(apply rx_scanAll;rfl;rfl;rfl;rfl;(rfl);(apply scanAll_ih <;> (first|assumption|omega|grind));rfl;rfl)|(apply rx_callE (k := 143);rfl;(apply isBranch_c);(rfl);rfl)|(apply rx_callE (k := 144);rfl;(apply simpleOk_c <;> (assumption));exact Pur.pf;rfl)))|refine stpb ?_|(refine stp2 ?_ ?_ <;> intro hc hq <;> try (exfalso;omega))|(refine stp3 ?_ ?_ <;> intro hg hq <;> try (exfalso;omega))|fail)
 all_goals (refine rq_ret rfl ?_; refine mc_ret () trivial ?_ ⟨sE ?_,trivial⟩)
 all_goals (try simp only [oneOf,AV.v.injEq,Value.bool.injEq,Value.int.injEq,true_and,spl,List.take,List.drop,List.length,List.append,List.nil_append,List.append_nil,Option.some.injEq,List.cons.injEq,and_true])
 all_goals rw [scS_def]
 all_goals clear scanAll_ih
 all_goals (cases hel : s.el <;> simp only [hel,List.length_nil,List.length_cons] at * <;> grind)
theorem scanAll_c0 (ts:List Int) (m:Nat) (hm:m ≤ 100000000) (scan_ih:∀ s nest c,cntS s ≤ m → 0 ≤ nest → nest ≤ 4 → 0 ≤ c → c ≤ 30 → MC Tryz.prog 95 [sl cI ts,aStmt s,iv nest,.optr 0 0] [(0,some ([iv c]))] 1 (fun _:Unit => True) (fun _ => bv (scS ts nest c s).1) (fun _ => [(0,some ([iv (scS ts nest c s).2]))])) (l:List AL.Stmt) (nest c:Int) (hs:cntL l ≤ m) (hn0:0 ≤ nest) (hn:nest ≤ 4) (hc0:0 ≤ c) (hc:c ≤ 30):MC Tryz.prog 53 [sl cI ts,sl cStmt l,iv nest,.optr 0 0] [(0,some ([iv c]))] 1 (fun _:Unit => True) (fun _ => bv (scL ts nest c l).1) (fun _ => [(0,some ([iv (scL ts nest c l).2]))]):=by
 have hlen := cntL_len l
 refine mc_start Tryz.func53 Tryz.ntmps53 ?_
 repeat' (first|refine stpb ?_|fail)
 refine aw_loopA (σ := Nat × Int) [0,2,3,11,12] [] (fun k => [(13,iv (k.1 : Int))]) (fun k => [(0,some [iv k.2])]) (fun k => k.1 ≤ l.length ∧ scL ts nest k.2 (l.drop k.1) = scL ts nest c l ∧ 0 ≤ k.2 ∧ k.2 ≤ 30) (fun k => l.length - k.1) (0,c) ⟨by omega,rfl,by omega,by omega⟩ ?_
 rintro ⟨k,c'⟩ ⟨hk,hn,hn0,hn1⟩
 dsimp only at hk hn hn0 hn1 ⊢
 have hck := cntL_at l k
 have hb1 := scS_bd ts l[k]! nest c'
 have hst := @scL_stop ts nest c' l k
 repeat' (first|(apply id_rw;(apply rx_scan;rfl;rfl;rfl;rfl;(rfl);(apply scan_ih <;> (first|assumption|omega));rfl;rfl))|refine stpb ?_|(refine stp2 ?_ ?_ <;> intro hc hq <;> try (exfalso;omega))|fail)
 ·(refine rq_ret rfl ?_; refine mc_ret () trivial ?_ ⟨sE ?_, trivial⟩)
  all_goals (try simp only [oneOf,AV.v.injEq,Value.bool.injEq,Value.int.injEq,true_and,spl,List.take,List.drop,List.length,List.append,List.nil_append,List.append_nil,Option.some.injEq,List.cons.injEq,and_true])
  all_goals (rw [← hn,hst (by omega)]; grind)
 ·(refine ex3 (k + 1, (scS ts nest c' l[k]!).2) (Le.renA []) ?_ ?_)
  ·dsimp only;grind
  ·dsimp only;omega
 ·(refine rq_ret rfl ?_; refine mc_ret () trivial ?_ ⟨sE ?_, trivial⟩)
  all_goals (try simp only [oneOf,AV.v.injEq,Value.bool.injEq,Value.int.injEq,true_and,spl,List.take,List.drop,List.length,List.append,List.nil_append,List.append_nil,Option.some.injEq,List.cons.injEq,and_true])
  all_goals (rw [← hn,List.drop_of_length_le (by omega),scL])
theorem scan_both (ts:List Int) (hl:typesOk ts = true):∀ (m:Nat),m ≤ 100000000 → (∀ s (nest c:Int),cntS s ≤ m → 0 ≤ nest → nest ≤ 4 → 0 ≤ c → c ≤ 30 → MC Tryz.prog 95 [sl cI ts,aStmt s,iv nest,.optr 0 0] [(0,some ([iv c]))] 1 (fun _:Unit => True) (fun _ => bv (scS ts nest c s).1) (fun _ => [(0,some ([iv (scS ts nest c s).2]))])) ∧
  (∀ l (nest c : Int),cntL l ≤ m → 0 ≤ nest → nest ≤ 4 → 0 ≤ c → c ≤ 30 → MC Tryz.prog 53 [sl cI ts,sl cStmt l,iv nest,.optr 0 0] [(0,some ([iv c]))] 1 (fun _ : Unit => True) (fun _ => bv (scL ts nest c l).1) (fun _ => [(0,some ([iv (scL ts nest c l).2]))])) := by
 intro m
 induction m using Nat.strongRecOn with
 | ind m ih =>
  intro hm
  have h1 : ∀ s (nest c : Int), cntS s ≤ m → 0 ≤ nest → nest ≤ 4 → 0 ≤ c → c ≤ 30 → MC Tryz.prog 95 [sl cI ts, aStmt s, iv nest, .optr 0 0] [(0, some ([iv c]))] 1 (fun _ : Unit => True) (fun _ => bv (scS ts nest c s).1) (fun _ => [(0, some ([iv (scS ts nest c s).2]))]) :=
   fun s nest c h1 h2 h3 h4 h5 => scan_c0 ts hl m (fun l nest c g1 g2 g3 g4 g5 => (ih (cntL l) g1 (by omega)).2 l nest c (Nat.le_refl _) g2 g3 g4 g5) s nest c h1 h2 h3 h4 h5
  exact ⟨h1,fun l nest c g1 g2 g3 g4 g5 => scanAll_c0 ts m hm h1 l nest c g1 g2 g3 g4 g5⟩
theorem scanAll_c (ts:List Int) (l:List AL.Stmt) (nest c:Int) (hl:typesOk ts = true) (hs:cntL l ≤ 100000000) (hn0:0 ≤ nest) (hn:nest ≤ 4) (hc0:0 ≤ c) (hc:c ≤ 30):MC Tryz.prog 53 [sl cI ts,sl cStmt l,iv nest,.optr 0 0] [(0,some ([iv c]))] 1 (fun _:Unit => True) (fun _ => bv (scL ts nest c l).1) (fun _ => [(0,some ([iv (scL ts nest c l).2]))]) :=
 (scan_both ts hl _ hs).2 l nest c (Nat.le_refl _) hn0 hn hc0 hc
theorem typesOk1_c (t:Int):PC Tryz.prog 94 [iv t] (fun r => r = bv (!(decide (1 ≤ t) && decide (t ≤ 4)))):=by
 refine pc_start Tryz.func94 Tryz.ntmps94 ?_
 repeat' (first|(apply id_rw;(apply rx_callE (k := 35);rfl;(apply within_c);(rfl);rfl))|refine stpb ?_|refine stpr ?_|fail)
 all_goals (refine ⟨?_,rfl⟩; simp only [oneOf,AV.v.injEq,Value.bool.injEq,Value.int.injEq,true_and])
def idxBad (ts : List Int) : Int := match ts.findIdx? (fun t => !(decide (1 ≤ t) && decide (t ≤ 4))) with | some i => i | none => -1
theorem idxBad_c (ts:List Int) (hl:ts.length ≤ 1048576):PC Tryz.prog 142 [sl cI ts,.v (.func (.func 94) #[] #[])] (fun r => r = iv (idxBad ts)):=by
 refine pc_start Tryz.func142 Tryz.ntmps142 ?_
 repeat' (first|refine stpb ?_|fail)
 refine aw_loopA (σ := Nat) [0,1,7] [] (fun k => [(8,iv (k : Int))]) (fun k => []) (fun k => k ≤ ts.length ∧ ∀ i,i < k → 1 ≤ ts[i]! ∧ ts[i]! ≤ 4) (fun k => ts.length - k) (0) ⟨by omega,by omega⟩ ?_
 intro k ⟨hk,hall⟩
 repeat' (first|(apply id_rw;(apply rx_callC;rfl;rfl;infer_instance;rfl;(apply typesOk1_c);(rfl);rfl))|refine stpb ?_|(refine stp2 ?_ ?_ <;> intro hc hq <;> try (exfalso;omega))|refine stpr ?_|fail)
 ·(refine ⟨?_, rfl⟩; simp only [oneOf, AV.v.injEq, Value.bool.injEq, Value.int.injEq, true_and])
  have hlt : k < ts.length := by omega
  have : ts.findIdx? (fun t => !(decide (1 ≤ t) && decide (t ≤ 4))) = some k := by
   rw [List.findIdx?_eq_some_iff_getElem]
   refine ⟨hlt,?_,fun j hj => ?_⟩
   ·rw [← getB ts k hlt]; grind
   ·have := hall j hj;rw [getB ts j (by omega)] at this;simp;omega
  simp only [idxBad,this]
 ·(refine ex3 (k + 1) (Le.renA []) ?_ ?_)
  ·grind
  ·omega
 ·(refine ⟨?_, rfl⟩; simp only [oneOf, AV.v.injEq, Value.bool.injEq, Value.int.injEq, true_and])
  have : ts.findIdx? (fun t => !(decide (1 ≤ t) && decide (t ≤ 4))) = none := by
   rw [List.findIdx?_eq_none_iff]
   intro x hx
   obtain ⟨i,hi,rfl⟩ := List.getElem_of_mem hx
   have := hall i (by omega);rw [getB ts i hi] at this;simp;omega
  simp only [idxBad,this]
theorem idxBad_ge (ts:List Int):decide (0 ≤ idxBad ts) = !(ts.all (fun t => decide (1 ≤ t) && decide (t ≤ 4))):=by
 unfold idxBad
 split
 ·rename_i i h
  obtain ⟨h1,h2,_⟩ := List.findIdx?_eq_some_iff_getElem.1 h
  have : ts.all (fun t => decide (1 ≤ t) && decide (t ≤ 4)) = false := by
   rw [List.all_eq_false]; exact ⟨ts[i],List.getElem_mem h1,by simp at h2 ⊢; omega⟩
  rw [this]; simp
 ·rename_i h
  rw [List.findIdx?_eq_none_iff] at h
  have : ts.all (fun t => decide (1 ≤ t) && decide (t ≤ 4)) = true := by
   rw [List.all_eq_true]; intro x hx;simpa using h x hx
  rw [this]; rfl
theorem contBad_c (ts:List Int) (hl:ts.length ≤ 1048576):PC Tryz.prog 93 [sl cI ts,.v (.func (.func 94) #[] #[])] (fun r => r = bv (!(ts.all (fun t => decide (1 ≤ t) && decide (t ≤ 4))))):=by
 refine pc_start Tryz.func93 Tryz.ntmps93 ?_
 repeat' (first|(apply id_rw;(apply rx_callE (k := 142);rfl;(apply idxBad_c <;> (assumption));exact Pur.pf;rfl))|refine stpb ?_|refine stpr ?_|fail)
 (refine ⟨?_,rfl⟩; simp only [oneOf,AV.v.injEq,Value.bool.injEq,Value.int.injEq,true_and])
 exact idxBad_ge ts
theorem typesOkI_c (ts:List Int) (hl:ts.length ≤ 1048576):PC Tryz.prog 52 [sl cI ts] (fun r => r = bv (typesOk ts)):=by
 refine pc_start Tryz.func52 Tryz.ntmps52 ?_
 repeat' (first|(apply id_rw;(apply rx_callE (k := 93);rfl;(apply contBad_c <;> (assumption));exact Pur.pf;rfl))|refine stpb ?_|(refine stp3 ?_ ?_ <;> intro hg hq <;> try (exfalso;omega))|refine stpr ?_|fail)
 all_goals (refine ⟨?_,rfl⟩; simp only [oneOf,AV.v.injEq,Value.bool.injEq,Value.int.injEq,true_and])
 all_goals (unfold typesOk;grind)
theorem validI_c (p:Prg) (hl:p.types.length ≤ 1048576) (hs:cntL p.body ≤ 100000000):PC Tryz.prog 17 [aPrg p] (fun r => r = bv (validF p)):=by
 rw [← scL_valid]
 cases ht : typesOk p.types
 ·refine pc_start Tryz.func17 Tryz.ntmps17 ?_
  repeat' (first|(apply id_rw;(apply rx_callE (k := 52);rfl;(apply typesOkI_c <;> (assumption));exact Pur.pf;rfl))|refine stpb ?_|refine stpr ?_|fail)
  all_goals (refine ⟨?_,rfl⟩; simp only [oneOf,AV.v.injEq,Value.bool.injEq,Value.int.injEq,true_and])
  all_goals grind
 ·refine pc_start Tryz.func17 Tryz.ntmps17 ?_
  repeat' (first|(apply id_rw;(first|(apply rx_callE (k := 52);rfl;(apply typesOkI_c <;> (assumption));exact Pur.pf;rfl)|(apply rx_scanAll;rfl;rfl;rfl;rfl;(rfl);(apply scanAll_c <;> (first|assumption|omega));rfl;rfl)))|refine stpb ?_|refine stpr ?_|fail)
  all_goals (refine ⟨?_,rfl⟩; simp only [oneOf,AV.v.injEq,Value.bool.injEq,Value.int.injEq,true_and])
  all_goals grind
theorem rx_pointsOf {l:List AL.Stmt}{pts:List Pnt}{m:Nat}{x0 x1:Operand}{i0:Nat}(ha0:ev (lk tsl) x0 = some (sl cStmt l)) (ha1:ev (lk tsl) x1 = some (.own i0 0 m 5)) (hH0:lkH hsl i0 = some (flat cPnt pts)) (hmc:MC Tryz.prog 101 [sl cStmt l,.own 0 0 m 5] [(0,some (flat cPnt pts))] 1 (fun _:Unit => True) (fun _ => .own 1 0 (m + npL l) 5) (fun _ => [(1,some (flat cPnt (pts ++ ptL pts.length l)))])) (hM:Nat.ble (nidl + 1) big = true) (hN:Nat.blt d N = true){md':Md}[hmd:MdA md (rOs [x0,x1] ++ [.inr i0]) (List.map Sum.inr (List.map Prod.fst ([(nidl,some (flat cPnt (pts ++ ptL pts.length l))),(i0,none)]:List (Nat × Option (List AV)))) ++ [.inl d]) md'] (kk:RW Tryz.prog N all Q md' rest ⟨(d,.own nidl 0 (m + npL l) 5) :: tsl,wrH hsl [(nidl,some (flat cPnt (pts ++ ptL pts.length l))),(i0,none)],nidl + 1,z0⟩):RW Tryz.prog N all Q md (⟨some d,.call ⟨.value (.func 101),#[x0,x1],tys⟩,ty,pos,af,none⟩ :: rest) ⟨tsl,hsl,nidl,z0⟩:=by
 exact rx_mcallA (l := [x0,x1]) [i0] 2 [(nidl,some (flat cPnt (pts ++ ptL pts.length l))),(i0,none)] hmc (avs := [sl cStmt l,.own i0 0 m 5]) (by simp only [evL,ha0,ha1]) rfl hM hN (md' := md') (hmd := hmd) kk
theorem pointsOf_c0 (mm:Nat) (hmm:mm ≤ 1048576) (pointsOf_ih:∀ l pts m,cntL l < mm → m = pts.length → m + npL l ≤ 13000000 → MC Tryz.prog 101 [sl cStmt l,.own 0 0 m 5] [(0,some (flat cPnt pts))] 1 (fun _:Unit => True) (fun _ => .own 1 0 (m + npL l) 5) (fun _ => [(1,some (flat cPnt (pts ++ ptL pts.length l)))])) (l:List AL.Stmt) (pts:List Pnt) (m:Nat) (hs:cntL l ≤ mm) (hm:m = pts.length) (hb:m + npL l ≤ 13000000):MC Tryz.prog 101 [sl cStmt l,.own 0 0 m 5] [(0,some (flat cPnt pts))] 1 (fun _:Unit => True) (fun _ => .own 1 0 (m + npL l) 5) (fun _ => [(1,some (flat cPnt (pts ++ ptL pts.length l)))]):=by
 have hlen := cntL_len l
 subst hm
 refine mc_start Tryz.func101 Tryz.ntmps101 ?_
 repeat' (first|refine stpb ?_|fail)
 refine AW.le ?_ (Le.mv (d := 1) (i := 0) (cs := flat cPnt pts) rfl rfl (by decide))
 refine aw_loopA (σ := Nat × List Pnt × Nat) [9,10] [] (fun k => [(11,iv (k.1 : Int)),(1,.own 1 0 k.2.2 5)]) (fun k => [(1,some (flat cPnt k.2.1))]) (fun k => k.1 ≤ l.length ∧ k.2.1 = pts ++ ptL pts.length (l.take k.1) ∧ k.2.2 = k.2.1.length ∧ k.2.2 = pts.length + npL (l.take k.1)) (fun k => l.length - k.1) (0,pts,pts.length) ⟨by omega,by simp [ptL],rfl,by simp [npL]⟩ ?_
 rintro ⟨k,xs,m1⟩ ⟨hk,hxs,hm1,hm2⟩
 dsimp only at hk hxs hm1 hm2 ⊢
 have hck := cntL_at l k
 have hct := cnt_th l[k]!
 have hnt := npL_at l k
 have n9 := npS_9 l[k]!
 have n10 := npS_10 l[k]!
 have n1 := npS_1 l[k]!
 repeat' (first|(apply id_rw;first|(apply rx_buildSliceI (t := _);rfl;rfl;rfl;(first|exact (rfl:_=some [_])|exact (rfl:_=some [_,_])|exact (rfl:_=some [_,_,_,_,_]));rfl;rfl)|(apply rx_pointsOf;rfl;rfl;(rfl);(apply pointsOf_ih <;> (first|omega|(simp only [lns] <;> omega)));rfl;rfl))|refine stpb ?_|(refine stp2 ?_ ?_ <;> intro hc hq <;> try (exfalso;omega))|fail)
 ·(refine ex3 (k + 1, _, _) (Le.renA [(1, 8)]) ?_ ?_)
  ·dsimp only
   rw [if_get1 hm1,if_set1 hm1,if_get2 (by rw [ptL_len,hm1]),if_set2 (by rw [ptL_len,hm1]),ptL_take l _ k (by omega),npL_take l k (by omega),ptS_def,if_pos hq,n9 hq]
   refine ⟨by omega,?_,by simp [ptL_len]; omega,by omega⟩
   have e1 : xs.length = pts.length + npL (l.take k) := by omega
   rw [← List.append_assoc pts,← hxs,← e1]
   simp only [List.append_assoc,List.length_append,List.length_cons,List.length_nil,ptL_len,hm1,Nat.zero_add]
   clear pointsOf_ih hxs hck hnt n9 n10 n1
   grind
  ·dsimp only;omega
 ·(refine ex3 (k + 1, _, _) (Le.renA [(1, 8)]) ?_ ?_)
  ·dsimp only
   rw [lp_get hm1,lp_set hm1,ptL_take l _ k (by omega),npL_take l k (by omega),ptS_def,if_neg (by omega),if_pos hq,n10 hq]
   refine ⟨by omega,?_,by simp [ptL_len]; omega,by omega⟩
   have e1 : xs.length = pts.length + npL (l.take k) := by omega
   rw [← List.append_assoc pts,← hxs,← e1]
   simp only [List.append_assoc,List.length_append,List.length_cons,List.length_nil,ptL_len,hm1,Nat.zero_add]
   clear pointsOf_ih hxs hck hnt n9 n10 n1
   grind
  ·dsimp only;omega
 ·(refine ex3 (k + 1, _, _) (Le.renA [(1, 5)]) ?_ ?_)
  ·dsimp only
   rw [ptL_take l _ k (by omega),npL_take l k (by omega),ptS_def,if_neg ‹¬l[k]!.op = 9›,if_neg hq,n1 ‹¬l[k]!.op = 9› hq]
   refine ⟨by omega,?_,by simp [ptL_len]; omega,by omega⟩
   have e1 : xs.length = pts.length + npL (l.take k) := by omega
   rw [← List.append_assoc pts,← hxs,← e1,hm1]
  ·dsimp only;omega
 ·refine rq_ret rfl ?_
  have e2 : l.take k = l := List.take_of_length_le (by omega)
  rw [e2] at hxs hm2
  refine mc_ret () trivial ?_ ⟨sE ?_,trivial⟩
  ·simp only [oneOf]; rw [hm2]
  ·rw [hxs]
theorem pointsOf_c (l:List AL.Stmt) (pts:List Pnt) (m:Nat) (hs:cntL l ≤ 1048576) (hm:m = pts.length) (hb:m + npL l ≤ 13000000):MC Tryz.prog 101 [sl cStmt l,.own 0 0 m 5] [(0,some (flat cPnt pts))] 1 (fun _:Unit => True) (fun _ => .own 1 0 (m + npL l) 5) (fun _ => [(1,some (flat cPnt (pts ++ ptL pts.length l)))]):=by
 have h : ∀ (mm : Nat), mm ≤ 1048576 → ∀ l pts m, cntL l ≤ mm → m = pts.length → m + npL l ≤ 13000000 → MC Tryz.prog 101 [sl cStmt l, .own 0 0 m 5] [(0, some (flat cPnt pts))] 1 (fun _ : Unit => True) (fun _ => .own 1 0 (m + npL l) 5) (fun _ => [(1, some (flat cPnt (pts ++ ptL pts.length l)))]) := by
  intro mm
  induction mm using Nat.strongRecOn with
  | ind mm ih =>
   intro h0 l pts m h1 h2 h3
   exact pointsOf_c0 mm h0 (fun l' pts' m' g1 g2 g3 => ih _ g1 (by omega) l' pts' m' (Nat.le_refl _) g2 g3) l pts m h1 h2 h3
 exact h _ hs l pts m (Nat.le_refl _) hm hb
theorem rx_pointsOfN {l:List AL.Stmt}{x0 x1:Operand}(ha0:ev (lk tsl) x0 = some (sl cStmt l)) (ha1:ev (lk tsl) x1 = some (.v (.slice none 0 0))) (hmc:MC Tryz.prog 101 [sl cStmt l,.v (.slice none 0 0)] [] 0 (fun _:Unit => True) (fun _ => .own 0 0 (npL l) 5) (fun _ => [(0,some (flat cPnt (ptL 0 l)))])) (hM:Nat.ble (nidl + 1) big = true) (hN:Nat.blt d N = true){md':Md}[hmd:MdA md (rOs [x0,x1] ++ []) (List.map Sum.inr (List.map Prod.fst ([(nidl,some (flat cPnt (ptL 0 l)))]:List (Nat × Option (List AV)))) ++ [.inl d]) md'] (kk:RW Tryz.prog N all Q md' rest ⟨(d,.own nidl 0 (npL l) 5) :: tsl,wrH hsl [(nidl,some (flat cPnt (ptL 0 l)))],nidl + 1,z0⟩):RW Tryz.prog N all Q md (⟨some d,.call ⟨.value (.func 101),#[x0,x1],tys⟩,ty,pos,af,none⟩ :: rest) ⟨tsl,hsl,nidl,z0⟩:=by
 exact rx_mcallA (l := [x0,x1]) [] 1 [(nidl,some (flat cPnt (ptL 0 l)))] hmc (avs := [sl cStmt l,.v (.slice none 0 0)]) (by simp only [evL,ha0,ha1]) rfl hM hN (md' := md') (hmd := hmd) kk
theorem pointsOfN_c (l:List AL.Stmt) (hs:cntL l ≤ 1048576):MC Tryz.prog 101 [sl cStmt l,.v (.slice none 0 0)] [] 0 (fun _:Unit => True) (fun _ => .own 0 0 (npL l) 5) (fun _ => [(0,some (flat cPnt (ptL 0 l)))]):=by
 have hlen := cntL_len l
 have hn2 := npL_le l
 refine mc_start Tryz.func101 Tryz.ntmps101 ?_
 repeat' (first|refine stpb ?_|fail)
 refine AW.le ?_ (Le.nilOwn (d := 1) 5 rfl (by decide))
 refine aw_loopA (σ := Nat × List Pnt × Nat) [9,10] [] (fun k => [(11,iv (k.1 : Int)),(1,.own 0 0 k.2.2 5)]) (fun k => [(0,some (flat cPnt k.2.1))]) (fun k => k.1 ≤ l.length ∧ k.2.1 = ptL 0 (l.take k.1) ∧ k.2.2 = k.2.1.length ∧ k.2.2 = npL (l.take k.1)) (fun k => l.length - k.1) (0,[],0) ⟨by omega,by simp [ptL],rfl,by simp [npL]⟩ ?_
 rintro ⟨k,xs,m1⟩ ⟨hk,hxs,hm1,hm2⟩
 dsimp only at hk hxs hm1 hm2 ⊢
 have hck := cntL_at l k
 have hct := cnt_th l[k]!
 have hnt := npL_at l k
 have n9 := npS_9 l[k]!
 have n10 := npS_10 l[k]!
 have n1 := npS_1 l[k]!
 repeat' (first|(apply id_rw;first|(apply rx_buildSliceI (t := _);rfl;rfl;rfl;(first|exact (rfl:_=some [_])|exact (rfl:_=some [_,_])|exact (rfl:_=some [_,_,_,_,_]));rfl;rfl)|(apply rx_pointsOf;rfl;rfl;(rfl);(apply pointsOf_c <;> (first|omega|(simp only [lns] <;> omega)));rfl;rfl))|refine stpb ?_|(refine stp2 ?_ ?_ <;> intro hc hq <;> try (exfalso;omega))|fail)
 ·(refine ex3 (k + 1, _, _) (Le.renA [(0, 7)]) ?_ ?_)
  ·dsimp only
   rw [if_get1 hm1,if_set1 hm1,if_get2 (by rw [ptL_len,hm1]),if_set2 (by rw [ptL_len,hm1]),ptL_take l _ k (by omega),npL_take l k (by omega),ptS_def,if_pos hq,n9 hq]
   refine ⟨by omega,?_,by simp [ptL_len]; omega,by omega⟩
   have e1 : npL (l.take k) = xs.length := by omega
   rw [Nat.zero_add,e1]
   rw [← hxs]
   simp only [List.append_assoc,List.length_append,List.length_cons,List.length_nil,ptL_len,hm1,Nat.zero_add]
   clear hxs hck hnt n9 n10 n1
   grind
  ·dsimp only;omega
 ·(refine ex3 (k + 1, _, _) (Le.renA [(0, 7)]) ?_ ?_)
  ·dsimp only
   rw [lp_get hm1,lp_set hm1,ptL_take l _ k (by omega),npL_take l k (by omega),ptS_def,if_neg (by omega),if_pos hq,n10 hq]
   refine ⟨by omega,?_,by simp [ptL_len]; omega,by omega⟩
   have e1 : npL (l.take k) = xs.length := by omega
   rw [Nat.zero_add,e1]
   rw [← hxs]
   simp only [List.append_assoc,List.length_append,List.length_cons,List.length_nil,ptL_len,hm1,Nat.zero_add]
   clear hxs hck hnt n9 n10 n1
   grind
  ·dsimp only;omega
 ·(refine ex3 (k + 1, _, _) (Le.renA [(0, 4)]) ?_ ?_)
  ·dsimp only
   rw [ptL_take l _ k (by omega),npL_take l k (by omega),ptS_def,if_neg ‹¬l[k]!.op = 9›,if_neg hq,n1 ‹¬l[k]!.op = 9› hq]
   refine ⟨by omega,?_,by simp [ptL_len]; omega,by omega⟩
   have e1 : npL (l.take k) = xs.length := by omega
   rw [Nat.zero_add,e1]
   rw [← hxs,hm1]
  ·dsimp only;omega
 ·refine rq_ret rfl ?_
  have e2 : l.take k = l := List.take_of_length_le (by omega)
  rw [e2] at hxs hm2
  refine mc_ret () trivial ?_ ⟨sE ?_,trivial⟩
  ·simp only [oneOf]; rw [hm2]
  ·rw [hxs]
theorem points_c (p:Prg) (hs:cntL p.body ≤ 1048576):PC Tryz.prog 60 [aPrg p] (fun r => r = sl cPnt (ptsF p)):=by
 have hn := npL_le p.body
 refine pc_start Tryz.func60 Tryz.ntmps60 ?_
 repeat' (first|(apply id_rw;first|(apply rx_buildSliceI (t := _);rfl;rfl;rfl;(exact (rfl:_=some [_,_,_,_,_]));rfl;rfl)|(apply rx_pointsOfN;rfl;rfl;(apply pointsOfN_c <;> (assumption));rfl;rfl))|refine stpb ?_|fail)
 (refine rq_le (Le.frzD (d := 2) (i := 3) rfl rfl) ?_; refine rq_ret rfl ?_)
 refine ⟨?_,?_⟩
 ·simp only [oneOf,sl,ptsF,List.length_append,List.length_cons,List.length_nil,ptL_len,Nat.zero_add]
 ·(exact pur_sl _ _)
theorem rx_l2Add {l:List AL.Stmt}{pts:List Pnt}{m:Nat}{x0 x1:Operand}{i0:Nat}(ha0:ev (lk tsl) x0 = some (.own i0 0 m 5)) (ha1:ev (lk tsl) x1 = some (sl cStmt l)) (hH0:lkH hsl i0 = some (flat cPnt pts)) (hmc:MC Tryz.prog 102 [.own 0 0 m 5,sl cStmt l] [(0,some (flat cPnt pts))] 1 (fun _:Unit => True) (fun _ => .own 1 0 (m + npL l) 5) (fun _ => [(1,some (flat cPnt (pts ++ ptL pts.length l)))])) (hM:Nat.ble (nidl + 1) big = true) (hN:Nat.blt d N = true){md':Md}[hmd:MdA md (rOs [x0,x1] ++ [.inr i0]) (List.map Sum.inr (List.map Prod.fst ([(nidl,some (flat cPnt (pts ++ ptL pts.length l))),(i0,none)]:List (Nat × Option (List AV)))) ++ [.inl d]) md'] (kk:RW Tryz.prog N all Q md' rest ⟨(d,.own nidl 0 (m + npL l) 5) :: tsl,wrH hsl [(nidl,some (flat cPnt (pts ++ ptL pts.length l))),(i0,none)],nidl + 1,z0⟩):RW Tryz.prog N all Q md (⟨some d,.call ⟨.value (.func 102),#[x0,x1],tys⟩,ty,pos,af,none⟩ :: rest) ⟨tsl,hsl,nidl,z0⟩:=by
 exact rx_mcallA (l := [x0,x1]) [i0] 2 [(nidl,some (flat cPnt (pts ++ ptL pts.length l))),(i0,none)] hmc (avs := [.own i0 0 m 5,sl cStmt l]) (by simp only [evL,ha0,ha1]) rfl hM hN (md' := md') (hmd := hmd) kk
theorem l2Add_c0 (mm:Nat) (hmm:mm ≤ 1048576) (l2Add_ih:∀ l pts m,cntL l < mm → m = pts.length → m + npL l ≤ 13000000 → MC Tryz.prog 102 [.own 0 0 m 5,sl cStmt l] [(0,some (flat cPnt pts))] 1 (fun _:Unit => True) (fun _ => .own 1 0 (m + npL l) 5) (fun _ => [(1,some (flat cPnt (pts ++ ptL pts.length l)))])) (l:List AL.Stmt) (pts:List Pnt) (m:Nat) (hs:cntL l ≤ mm) (hm:m = pts.length) (hb:m + npL l ≤ 13000000):MC Tryz.prog 102 [.own 0 0 m 5,sl cStmt l] [(0,some (flat cPnt pts))] 1 (fun _:Unit => True) (fun _ => .own 1 0 (m + npL l) 5) (fun _ => [(1,some (flat cPnt (pts ++ ptL pts.length l)))]):=by
 have hlen := cntL_len l
 subst hm
 refine mc_start Tryz.func102 Tryz.ntmps102 ?_
 repeat' (first|refine stpb ?_|fail)
 refine AW.le ?_ (Le.mv (d := 0) (i := 0) (cs := flat cPnt pts) rfl rfl (by decide))
 refine aw_loopA (σ := Nat × List Pnt × Nat) [1] [] (fun k => [(5,iv (k.1 : Int)),(0,.own 1 0 k.2.2 5)]) (fun k => [(1,some (flat cPnt k.2.1))]) (fun k => k.1 ≤ l.length ∧ k.2.1 = pts ++ ptL pts.length (l.take k.1) ∧ k.2.2 = k.2.1.length ∧ k.2.2 = pts.length + npL (l.take k.1)) (fun k => l.length - k.1) (0,pts,pts.length) ⟨by omega,by simp [ptL],rfl,by simp [npL]⟩ ?_
 rintro ⟨k,xs,m1⟩ ⟨hk,hxs,hm1,hm2⟩
 dsimp only at hk hxs hm1 hm2 ⊢
 have hck := cntL_at l k
 have hct := cnt_th l[k]!
 have hnt := npL_at l k
 have n9 := npS_9 l[k]!
 have n10 := npS_10 l[k]!
 have n1 := npS_1 l[k]!
 repeat' (first|(apply id_rw;first|(apply rx_buildSliceI (t := _);rfl;rfl;rfl;(first|exact (rfl:_=some [_])|exact (rfl:_=some [_,_])|exact (rfl:_=some [_,_,_,_,_]));rfl;rfl)|(apply rx_l2Add;rfl;rfl;(rfl);(apply l2Add_ih <;> (first|omega|(simp only [lns] <;> omega)));rfl;rfl))|refine stpb ?_|(refine stp2 ?_ ?_ <;> intro hc hq <;> try (exfalso;omega))|fail)
 ·(refine ex3 (k + 1, _, _) (Le.renA [(1, 8)]) ?_ ?_)
  ·dsimp only
   rw [if_get2 (by rw [ptL_len,hm1]),if_set2 (by rw [ptL_len,hm1]),if_get1 hm1,if_set1 hm1,ptL_take l _ k (by omega),npL_take l k (by omega),ptS_def,if_pos hq,n9 hq]
   refine ⟨by omega,?_,by simp [ptL_len]; omega,by omega⟩
   have e1 : xs.length = pts.length + npL (l.take k) := by omega
   rw [← List.append_assoc pts,← hxs,← e1]
   simp only [List.append_assoc,List.length_append,List.length_cons,List.length_nil,ptL_len,hm1,Nat.zero_add]
   clear l2Add_ih hxs hck hnt n9 n10 n1
   grind
  ·dsimp only;omega
 ·(refine ex3 (k + 1, _, _) (Le.renA [(1, 8)]) ?_ ?_)
  ·dsimp only
   rw [lp_get hm1,lp_set hm1,ptL_take l _ k (by omega),npL_take l k (by omega),ptS_def,if_neg (by omega),if_pos hq,n10 hq]
   refine ⟨by omega,?_,by simp [ptL_len]; omega,by omega⟩
   have e1 : xs.length = pts.length + npL (l.take k) := by omega
   rw [← List.append_assoc pts,← hxs,← e1]
   simp only [List.append_assoc,List.length_append,List.length_cons,List.length_nil,ptL_len,hm1,Nat.zero_add]
   clear l2Add_ih hxs hck hnt n9 n10 n1
   grind
  ·dsimp only;omega
 ·(refine ex3 (k + 1, _, _) (Le.renA [(1, 5)]) ?_ ?_)
  ·dsimp only
   rw [ptL_take l _ k (by omega),npL_take l k (by omega),ptS_def,if_neg ‹¬l[k]!.op = 9›,if_neg hq,n1 ‹¬l[k]!.op = 9› hq]
   refine ⟨by omega,?_,by simp [ptL_len]; omega,by omega⟩
   have e1 : xs.length = pts.length + npL (l.take k) := by omega
   rw [← List.append_assoc pts,← hxs,← e1,hm1]
  ·dsimp only;omega
 ·refine rq_ret rfl ?_
  have e2 : l.take k = l := List.take_of_length_le (by omega)
  rw [e2] at hxs hm2
  refine mc_ret () trivial ?_ ⟨sE ?_,trivial⟩
  ·simp only [oneOf]; rw [hm2]
  ·rw [hxs]
theorem l2Add_c (l:List AL.Stmt) (pts:List Pnt) (m:Nat) (hs:cntL l ≤ 1048576) (hm:m = pts.length) (hb:m + npL l ≤ 13000000):MC Tryz.prog 102 [.own 0 0 m 5,sl cStmt l] [(0,some (flat cPnt pts))] 1 (fun _:Unit => True) (fun _ => .own 1 0 (m + npL l) 5) (fun _ => [(1,some (flat cPnt (pts ++ ptL pts.length l)))]):=by
 have h : ∀ (mm : Nat), mm ≤ 1048576 → ∀ l pts m, cntL l ≤ mm → m = pts.length → m + npL l ≤ 13000000 → MC Tryz.prog 102 [.own 0 0 m 5, sl cStmt l] [(0, some (flat cPnt pts))] 1 (fun _ : Unit => True) (fun _ => .own 1 0 (m + npL l) 5) (fun _ => [(1, some (flat cPnt (pts ++ ptL pts.length l)))]) := by
  intro mm
  induction mm using Nat.strongRecOn with
  | ind mm ih =>
   intro h0 l pts m h1 h2 h3
   exact l2Add_c0 mm h0 (fun l' pts' m' g1 g2 g3 => ih _ g1 (by omega) l' pts' m' (Nat.le_refl _) g2 g3) l pts m h1 h2 h3
 exact h _ hs l pts m (Nat.le_refl _) hm hb
theorem l2Points_c (p:Prg) (hs:cntL p.body ≤ 1048576):PC Tryz.prog 62 [aPrg p] (fun r => r = sl cPnt (ptsF p)):=by
 have hn := npL_le p.body
 have e0 : ([] : List AV) = flat cPnt [] := rfl
 refine pc_start Tryz.func62 Tryz.ntmps62 ?_
 repeat' (first|(apply id_rw;(apply rx_l2Add;rfl;rfl;(exact flat_nilH rfl);(apply l2Add_c <;> (first|assumption|omega|(simp only [lns] <;> omega)));rfl;rfl))|refine stpb ?_|fail)
 (refine rq_le (Le.frzD (d := 2) (i := 4) rfl rfl) ?_; refine rq_ret rfl ?_)
 refine ⟨?_,(by (exact pur_sl _ _))⟩
 simp only [oneOf,sl,ptsF,List.length_append,List.length_cons,List.length_nil,ptL_len,Nat.zero_add,List.nil_append]
theorem takes_c (ts:List Int) (bd:List AL.Stmt) (pts:List Pnt) (v:Int) (h:0 ≤ v ∧ v < ts.length):PC Tryz.prog 152 [aG ts bd pts,iv v] (fun r => r = bv (tkT ts[v.toNat]!)):=by
 refine pc_start Tryz.func152 Tryz.ntmps152 ?_
 repeat' (first|refine stpb ?_|(refine stp3 ?_ ?_ <;> intro hg hq <;> try (exfalso;omega))|refine stpr ?_|fail)
 all_goals (refine ⟨?_,rfl⟩; simp only [oneOf,AV.v.injEq,Value.bool.injEq,Value.int.injEq,true_and])
 all_goals grind [tkT]
theorem use_c (ts:List Int) (bd:List AL.Stmt) (pts:List Pnt) (x:Pnt) (v:Int) (h:0 ≤ v ∧ v < ts.length):PC Tryz.prog 269 [aG ts bd pts,aPnt x,iv v] (fun r => r = iv (useAt ts x v)):=by
 refine pc_start Tryz.func269 Tryz.ntmps269 ?_
 repeat' (first|(apply id_rw;(apply rx_callE (k := 152);rfl;(apply takes_c <;> (assumption));exact Pur.pf;rfl))|refine stpb ?_|(refine stp2 ?_ ?_ <;> intro hc hq <;> try (exfalso;omega))|(refine stp3 ?_ ?_ <;> intro hg hq <;> try (exfalso;omega))|refine stpr ?_|fail)
 all_goals (refine ⟨?_,rfl⟩; simp only [oneOf,AV.v.injEq,Value.bool.injEq,Value.int.injEq,true_and])
 all_goals grind [tkT,useAt]
theorem sets_c (x:Pnt):PC Tryz.prog 279 [aPnt x] (fun r => r = iv (setAt x)):=by
 refine pc_start Tryz.func279 Tryz.ntmps279 ?_
 repeat' (first|refine stpb ?_|(refine stp2 ?_ ?_ <;> intro hc hq <;> try (exfalso;omega))|refine stpr ?_|fail)
 all_goals (refine ⟨?_,rfl⟩; simp only [oneOf,AV.v.injEq,Value.bool.injEq,Value.int.injEq,true_and])
 all_goals grind [setAt]
theorem isLoan_c (x:Pnt):PC Tryz.prog 280 [aPnt x] (fun r => r = bv (isLn x)):=by
 refine pc_start Tryz.func280 Tryz.ntmps280 ?_
 repeat' (first|refine stpb ?_|(refine stp3 ?_ ?_ <;> intro hg hq <;> try (exfalso;omega))|refine stpr ?_|fail)
 all_goals (refine ⟨?_,rfl⟩; simp only [oneOf,AV.v.injEq,Value.bool.injEq,Value.int.injEq,true_and])
 all_goals grind [isLn]
theorem setBit_c (x:Pnt) (h:setAt x < 62):PC Tryz.prog 245 [aPnt x] (fun r => r = iv (sbit x:Nat)):=by
 refine pc_start Tryz.func245 Tryz.ntmps245 ?_
 repeat' (first|(apply id_rw;first|(apply rx_shl1;rfl;rfl;infer_instance;omega;rfl;(case' kk => intro hsm))|(apply rx_callE (k := 279);rfl;(apply sets_c);exact Pur.pf;rfl))|refine stpb ?_|(refine stp2 ?_ ?_ <;> intro hc hq <;> try (exfalso;omega))|refine stpr ?_|fail)
 all_goals (refine ⟨?_,rfl⟩; simp only [oneOf,AV.v.injEq,Value.bool.injEq,Value.int.injEq,true_and])
 all_goals (unfold sbit)
 ·rw [if_pos (by omega)]
 ·rw [if_neg (by omega)]; rfl
theorem all_c (ts:List Int) (bd:List AL.Stmt) (pts:List Pnt) (h:ts.length ≤ 6):PC Tryz.prog 287 [aG ts bd pts] (fun r => r = iv ((2 ^ ts.length - 1:Nat):Int)):=by
 have h1 : 2 ^ ts.length ≤ 2 ^ 6 := Nat.pow_le_pow_right (by decide) h
 have h2 : 0 < 2 ^ ts.length := Nat.pow_pos (by decide)
 have h3 : 2 ^ (ts.length : Int).toNat ≤ 2 ^ 6 := h1
 have h4 : 2 ^ (ts.length : Int).toNat = 2 ^ ts.length := rfl
 refine pc_start Tryz.func287 Tryz.ntmps287 ?_
 repeat' (first|(apply id_rw;(apply rx_shl1;rfl;rfl;infer_instance;omega;rfl;(case' kk => intro hsm)))|refine stpb ?_|refine stpr ?_|fail)
 all_goals (refine ⟨?_,rfl⟩; simp only [oneOf,AV.v.injEq,Value.bool.injEq,Value.int.injEq,true_and])
 omega
def idxF (xs : List Int) (v : Int) : Int := match xs.findIdx? (fun t => decide (t = v)) with | some i => i | none => -1
theorem index_c (xs:List Int) (v:Int) (hl:xs.length ≤ 1048576):PC Tryz.prog 262 [sl cI xs,iv v] (fun r => r = iv (idxF xs v)):=by
 refine pc_start Tryz.func262 Tryz.ntmps262 ?_
 repeat' (first|refine stpb ?_|fail)
 refine aw_loopA (σ := Nat) [0,1,7] [] (fun k => [(8,iv (k : Int))]) (fun k => []) (fun k => k ≤ xs.length ∧ ∀ i,i < k → xs[i]! ≠ v) (fun k => xs.length - k) (0) ⟨by omega,by omega⟩ ?_
 intro k ⟨hk,hall⟩
 repeat' (first|refine stpb ?_|(refine stp2 ?_ ?_ <;> intro hc hq <;> try (exfalso;omega))|refine stpr ?_|fail)
 ·(refine ⟨?_, rfl⟩; simp only [oneOf, AV.v.injEq, Value.bool.injEq, Value.int.injEq, true_and])
  have hlt : k < xs.length := by omega
  have : xs.findIdx? (fun t => decide (t = v)) = some k := by
   rw [List.findIdx?_eq_some_iff_getElem]
   refine ⟨hlt,?_,fun j hj => ?_⟩
   ·rw [← getB xs k hlt]; grind
   ·have := hall j hj;rw [getB xs j (by omega)] at this;simpa using this
  simp only [idxF,this]
 ·(refine ex3 (k + 1) (Le.renA []) ?_ ?_)
  ·grind
  ·omega
 ·(refine ⟨?_, rfl⟩; simp only [oneOf, AV.v.injEq, Value.bool.injEq, Value.int.injEq, true_and])
  have : xs.findIdx? (fun t => decide (t = v)) = none := by
   rw [List.findIdx?_eq_none_iff]
   intro x hx
   obtain ⟨i,hi,rfl⟩ := List.getElem_of_mem hx
   have := hall i (by omega);rw [getB xs i hi] at this;simpa using this
  simp only [idxF,this]
theorem idxF_ge (xs:List Int) (v:Int):decide (0 ≤ idxF xs v) = decide (v ∈ xs):=by
 unfold idxF
 split
 ·rename_i i h
  obtain ⟨h1,h2,_⟩ := List.findIdx?_eq_some_iff_getElem.1 h
  simp only [decide_eq_true_eq] at h2
  have : v ∈ xs := by rw [← h2]; exact List.getElem_mem h1
  simp [this]
 ·rename_i h
  rw [List.findIdx?_eq_none_iff] at h
  have : v ∉ xs := fun hm => by have := h v hm;simp at this
  simp [this]
theorem contains_c (xs:List Int) (v:Int) (hl:xs.length ≤ 1048576):PC Tryz.prog 201 [sl cI xs,iv v] (fun r => r = bv (decide (v ∈ xs))):=by
 refine pc_start Tryz.func201 Tryz.ntmps201 ?_
 repeat' (first|(apply id_rw;(apply rx_callE (k := 262);rfl;(apply index_c <;> (assumption));exact Pur.pf;rfl))|refine stpb ?_|refine stpr ?_|fail)
 (refine ⟨?_,rfl⟩; simp only [oneOf,AV.v.injEq,Value.bool.injEq,Value.int.injEq,true_and])
 exact idxF_ge xs v
theorem which_c (ts:List Int) (bd:List AL.Stmt) (pts:List Pnt) (x:Pnt) (us:List Int) (h:ts.length ≤ 6) (hu:us.length ≤ 1000):PC Tryz.prog 212 [aG ts bd pts,aPnt x,sl cI us] (fun r => r = iv (wS ts x us:Nat)):=by
 refine pc_start Tryz.func212 Tryz.ntmps212 ?_
 repeat' (first|refine stpb ?_|fail)
 refine aw_loopA (σ := Nat × Nat) [0,2,4,14] [0] (fun k => [(15,iv (k.1 : Int)),(7,iv (k.2 : Int))]) (fun k => []) (fun k => k.1 ≤ ts.length ∧ k.2 = mkBits (fun v => decide (useAt ts x v ∈ us)) k.1) (fun k => ts.length - k.1) (0,0) ⟨by omega,rfl⟩ ?_
 rintro ⟨k,A⟩ ⟨hk,hA⟩
 dsimp only at hk hA ⊢
 have hsm : Sm A := hA ▸ mkBits_sm (by omega)
 repeat' (first|(apply id_rw;first|(apply rx_shl1;rfl;rfl;infer_instance;omega;rfl;(case' kk => intro hsm))|(first|(apply rx_callE (k := 201);rfl;(apply contains_c <;> (omega));exact Pur.pf;rfl)|(apply rx_callE (k := 269);rfl;(apply use_c <;> (omega));exact Pur.pf;rfl)))|refine stpb ?_|(refine stp2 ?_ ?_ <;> intro hc hq <;> try (exfalso;omega))|refine stpr ?_|fail)
 ·(refine ex3 (k + 1, _) (Le.renA [(0, 0)]) ?_ ?_)
  ·dsimp only
   rw [hA]
   exact ⟨by omega,mkBits_succ _ _ (by simpa using hq)⟩
  ·dsimp only;omega
 ·(refine ex3 (k + 1, _) (Le.renA [(0, 0)]) ?_ ?_)
  ·dsimp only
   rw [hA]
   exact ⟨by omega,mkBits_skip _ _ (by simpa using hq)⟩
  ·dsimp only;omega
 ·(refine ⟨?_, rfl⟩; simp only [oneOf, AV.v.injEq, Value.bool.injEq, Value.int.injEq, true_and])
  rw [hA,show k = ts.length by omega]; rfl
theorem used_c (ts:List Int) (bd:List AL.Stmt) (pts:List Pnt) (x:Pnt) (h:ts.length ≤ 6):PC Tryz.prog 149 [aG ts bd pts,aPnt x] (fun r => r = iv (wS ts x [1,2,3]:Nat)):=by
 refine pc_start Tryz.func149 Tryz.ntmps149 ?_
 repeat' (first|(apply id_rw;first|(apply rx_buildSliceI (t := _);rfl;rfl;rfl;(exact (rfl:_=some [_,_,_]));rfl;rfl)|(apply rx_callE (k := 212);rfl;(apply which_c (us := [1,2,3]) <;> (first|assumption|decide));exact Pur.pf;rfl))|refine stpb ?_|refine stpr ?_|fail)
 (refine ⟨?_,rfl⟩; simp only [oneOf,AV.v.injEq,Value.bool.injEq,Value.int.injEq,true_and])
theorem taken_c (ts:List Int) (bd:List AL.Stmt) (pts:List Pnt) (x:Pnt) (h:ts.length ≤ 6):PC Tryz.prog 244 [aG ts bd pts,aPnt x] (fun r => r = iv (wS ts x [2]:Nat)):=by
 refine pc_start Tryz.func244 Tryz.ntmps244 ?_
 repeat' (first|(apply id_rw;first|(apply rx_buildSliceI (t := _);rfl;rfl;rfl;exact (rfl:_=some [_]);rfl;rfl)|(apply rx_callE (k := 212);rfl;(apply which_c (us := [2]) <;> (first|assumption|decide));exact Pur.pf;rfl))|refine stpb ?_|refine stpr ?_|fail)
 (refine ⟨?_,rfl⟩; simp only [oneOf,AV.v.injEq,Value.bool.injEq,Value.int.injEq,true_and])
theorem valued_c (ts:List Int) (bd:List AL.Stmt) (pts:List Pnt) (i:Int) (A:Nat) (h:WG ts pts) (hi:0 ≤ i ∧ i < pts.length) (hA:Sm A):PC Tryz.prog 186 [aG ts bd pts,iv i,iv (A:Int)] (fun r => r = iv (valF ts pts[i.toNat]! A:Nat)):=by
 have htl := h.tl
 have hst := (h.set i.toNat (by omega)).1
 have hs1 : Sm (wS ts pts[i.toNat]! [2]) := mkBits_sm (by omega)
 have hs2 : Sm (sbit pts[i.toNat]!) := sbit_sm (by omega)
 refine pc_start Tryz.func186 Tryz.ntmps186 ?_
 repeat' (first|(apply id_rw;(first|(apply rx_callE (k := 244);rfl;(apply taken_c <;> (assumption));exact Pur.pf;rfl)|(apply rx_callE (k := 245);rfl;(apply setBit_c <;> (omega));exact Pur.pf;rfl)))|refine stpb ?_|refine stpd ?_|refine stpr ?_|fail)
 (refine ⟨?_,rfl⟩; simp only [oneOf,AV.v.injEq,Value.bool.injEq,Value.int.injEq,true_and])
 rfl
theorem forwardM_c (ts:List Int) (bd:List AL.Stmt) (pts:List Pnt) (A:List Nat) (w:WG ts pts) (hA:GoodM ts pts A):PC Tryz.prog 243 [aG ts bd pts,iv 0,bv false,.clos (.func 186) [aG ts bd pts] []] (fun r => r = .imm pts.length (flat cN A)):=by
 have hpl := w.pl
 have hp0 := w.p0
 have htl := w.tl
 have fl := flowM w
 refine pc_start Tryz.func243 Tryz.ntmps243 ?_
 repeat' (first|refine stpb ?_|fail)
 refine aw_loopA (σ := List Nat × Bool) [0,2,3,9] [] (fun s => [(11,bv s.2)]) (fun s => [(0,some (flat cN s.1))]) (fun s => SG pts (PpM ts pts) s.1 ∧ True ∧ (s.2 = false → ClosedG opU (fun i A => valF ts pts[i]! A) pts s.1)) (fun s => 2 * sumL (s.1.map (fun a => 2 ^ ts.length - a)) + s.2.toNat) (((List.replicate pts.length 0).set 0 0),true) ⟨by rw [set_self (by rw [getB _ _ (by simpa using hp0),List.getElem_replicate]) (by simpa using hp0)]; exact SG_rep fun i hi => ⟨Nat.pow_pos (by decide),fun v h => by simp at h⟩,trivial,fun h => by cases h⟩ ?_
 rintro ⟨s,b⟩ ⟨hS,hE,hC⟩
 dsimp only at hS hE hC ⊢
 repeat' (first|refine stpb ?_|(refine stp2 ?_ ?_ <;> intro hc hq <;> try (exfalso;omega))|fail)
 ·refine aw_loopA (σ := Nat × (List Nat × Bool)) [0, 2, 3, 9, 43, 44] [] (fun k => [(45, iv (k.1 : Int)), (11, bv k.2.2)]) (fun k => [(0, some (flat cN k.2.1))]) (fun k => k.1 ≤ pts.length ∧ k.2 = (List.range k.1).foldl (innG opU (fun i A => valF ts pts[i]! A) pts) (s, false) ∧ SG pts (PpM ts pts) k.2.1 ∧ True) (fun k => pts.length - k.1) (0, (s, false)) ⟨by omega, rfl, hS, hE⟩ ?_
  rintro ⟨k,u,c⟩ ⟨hk,hf,hS2,hE2⟩
  dsimp only at hk hf hS2 hE2 ⊢
  have hsm : ∀ z,Sm u[z]! := sm_all hS2 (fun i A h => h.1) htl
  have hul := hS2.1
  repeat' (first|(apply id_rw;(apply rx_callC;rfl;rfl;infer_instance;rfl;(apply valued_c <;> (first|assumption|omega|infer_instance));exact Pur.pf;rfl))|refine stpb ?_|(refine stp2 ?_ ?_ <;> intro hc hq <;> try (exfalso;omega))|fail)
  ·have hkn : k < pts.length := by omega
   have hv := valF_lt w hkn (hS2.2 k hkn).1
   have hvs : Sm (valF ts pts[k]! u[k]!) := ⟨Nat.lt_of_lt_of_le hv (Nat.pow_le_pow_right (by decide) (by omega))⟩
   have hvs' : Sm (valF ts pts[(k : Int).toNat]! u[k]!) := hvs
   have hnl := w.nl k hkn
   refine aw_loopA (σ := Nat × (List Nat × Bool)) [0,2,3,9,14,43,44,45,58,59] [] (fun j => [(60,iv (j.1 : Int)),(11,bv j.2.2)]) (fun j => [(0,some (flat cN j.2.1))]) (fun j => j.1 ≤ pts[k]!.next.length ∧ j.2 = ((nxN pts k).take j.1).foldl (bstp opU (valF ts pts[k]! u[k]!)) (u,c) ∧ SG pts (PpM ts pts) j.2.1 ∧ True) (fun j => pts[k]!.next.length - j.1) (0,(u,c)) ⟨by omega,rfl,hS2,hE2⟩ ?_
   rintro ⟨j,u2,c2⟩ ⟨hj,hf2,hS3,hE3⟩
   dsimp only at hj hf2 hS3 hE3 ⊢
   have hsm2 : ∀ z,Sm u2[z]! := sm_all hS3 (fun i A h => h.1) htl
   have hul2 := hS3.1
   have hz : j < pts[k]!.next.length → 0 ≤ pts[k]!.next[j]! ∧ pts[k]!.next[j]! < pts.length := fun h => w.nx k hkn _ (getB_mem _ _ h)
   repeat' (first|refine stpb ?_|(refine stp2 ?_ ?_ <;> intro hc hq <;> try (exfalso;omega))|fail)
   ·have hzz := hz (by omega)
    have hed : edge pts k (pts[k]!.next[j]!).toNat := ⟨hkn,by rw [Int.toNat_of_nonneg hzz.1]; exact getB_mem _ _ (by omega)⟩
    have hne : opU u2[(pts[k]!.next[j]!).toNat]! (valF ts pts[k]! u[k]!) ≠ u2[(pts[k]!.next[j]!).toNat]! := fun h => hq (congrArg Int.ofNat h)
    (refine ex3 (j + 1,(_,true)) (Le.renA [(0,0)]) ?_ ?_)
    ·dsimp only
     refine ⟨by omega,?_,SG_step fl w (hS2.2 k hkn) hed hS3,trivial⟩
     rw [bstp_take (by omega),← hf2,bstp_1 hne]; rfl
    ·dsimp only;omega
   ·have hzz := hz (by omega)
    have hne : opU u2[(pts[k]!.next[j]!).toNat]! (valF ts pts[k]! u[k]!) = u2[(pts[k]!.next[j]!).toNat]! := Int.ofNat.inj hq
    (refine ex3 (j + 1,(u2,c2)) (Le.renA [(0,0)]) ?_ ?_)
    ·dsimp only
     refine ⟨by omega,?_,hS3,hE3⟩
     rw [bstp_take (by omega),← hf2,bstp_0 hne]
    ·dsimp only;omega
   ·(refine ex3 (k + 1, (u2, c2)) (Le.renA [(0, 0)]) ?_ ?_)
    ·dsimp only
     refine ⟨by omega,?_,hS3,hE3⟩
     rw [range_succ_foldl,← hf,hf2,List.take_of_length_le (by rw [nxN_len]; omega)]; rfl
    ·dsimp only;omega
  ·have law := swpG_law w fl s false hS
   have hfull : (u, c) = swpG opU (fun i A => valF ts pts[i]! A) pts (s, false) := by
    rw [hf,show k = pts.length by omega]; rfl
   rw [show swpG (fun a s => opU a s) (fun i A => valF ts pts[i]! A) pts (s,false) = (u,c) from hfull.symm] at law
   (refine ex3 (u,c) (Le.renA [(0,0)]) ?_ ?_)
   ·dsimp only
    refine ⟨hS2,hE2,fun h => ?_⟩
    rcases law.2 with ⟨e1,e2⟩ | ⟨e1,_⟩
    ·cases e1;exact e2
    ·dsimp only at e1;rw [h] at e1;cases e1
   ·dsimp only
    have hb : b = true := by assumption
    subst hb
    rcases law.2 with ⟨e1,e2⟩ | ⟨e1,e2⟩
    ·cases e1;simp
    ·dsimp only at e1 e2;subst e1;omega
 ·have hb : b = false := by assumption
  refine rq_le (Le.frzD (d := 8) (i := 0) rfl rfl) ?_
  refine rq_ret rfl ⟨?_,(by (exact pur_sl _ _))⟩
  simp only [oneOf]
  rw [goodM_ext hA (goodM_of w hS (hC hb))]
theorem forwardA_c (ts:List Int) (bd:List AL.Stmt) (pts:List Pnt) (A:List Nat) (w:WG ts pts) (hA:GoodA ts pts A):PC Tryz.prog 243 [aG ts bd pts,iv 0,bv true,.clos (.func 186) [aG ts bd pts] []] (fun r => r = .imm pts.length (flat cN A)):=by
 have hpl := w.pl
 have hp0 := w.p0
 have htl := w.tl
 have fl := flowA w
 refine pc_start Tryz.func243 Tryz.ntmps243 ?_
 repeat' (first|refine stpb ?_|fail)
 refine aw_loopA (σ := Nat × List Nat) [0,1,2,3,9,26] [] (fun k => [(27,iv (k.1 : Int))]) (fun k => [(0,some (flat cN k.2))]) (fun k => k.1 ≤ pts.length ∧ k.2 = List.replicate k.1 (2 ^ ts.length - 1) ++ List.replicate (pts.length - k.1) 0) (fun k => pts.length - k.1) (0,List.replicate pts.length 0) ⟨by omega,by simp⟩ ?_
 rintro ⟨k0,u0⟩ ⟨hk0,hu0⟩
 dsimp only at hk0 hu0 ⊢
 have hul0 : u0.length = pts.length := by rw [hu0]; simp;omega
 repeat' (first|(apply id_rw;(apply rx_callE (k := 287);rfl;(apply all_c <;> (assumption));exact Pur.pf;rfl))|refine stpb ?_|(refine stp2 ?_ ?_ <;> intro hc hq <;> try (exfalso;omega))|fail)
 ·(refine ex3 (k0 + 1, _) (Le.renA [(0, 0)]) ?_ ?_)
  ·dsimp only
   exact ⟨by omega,by rw [hu0]; exact rep_set (by omega)⟩
  ·dsimp only;omega
 have hk1 : k0 = pts.length := by omega
 subst hk1
 rw [Nat.sub_self,List.replicate_zero,List.append_nil] at hu0
 refine aw_loopA (σ := List Nat × Bool) [0,2,3,9] [] (fun s => [(11,bv s.2)]) (fun s => [(0,some (flat cN s.1))]) (fun s => SG pts (PpA ts pts) s.1 ∧ s.1[0]! = 0 ∧ (s.2 = false → ClosedG opI (fun i A => valF ts pts[i]! A) pts s.1)) (fun s => 2 * sumL (s.1.map (fun a => a)) + s.2.toNat) ((u0.set 0 0),true) ⟨(startA w hu0).1,(startA w hu0).2,fun h => by cases h⟩ ?_
 rintro ⟨s,b⟩ ⟨hS,hE,hC⟩
 dsimp only at hS hE hC ⊢
 repeat' (first|refine stpb ?_|(refine stp2 ?_ ?_ <;> intro hc hq <;> try (exfalso;omega))|fail)
 ·refine aw_loopA (σ := Nat × (List Nat × Bool)) [0, 2, 3, 9, 43, 44] [] (fun k => [(45, iv (k.1 : Int)), (11, bv k.2.2)]) (fun k => [(0, some (flat cN k.2.1))]) (fun k => k.1 ≤ pts.length ∧ k.2 = (List.range k.1).foldl (innG opI (fun i A => valF ts pts[i]! A) pts) (s, false) ∧ SG pts (PpA ts pts) k.2.1 ∧ k.2.1[0]! = 0) (fun k => pts.length - k.1) (0, (s, false)) ⟨by omega, rfl, hS, hE⟩ ?_
  rintro ⟨k,u,c⟩ ⟨hk,hf,hS2,hE2⟩
  dsimp only at hk hf hS2 hE2 ⊢
  have hsm : ∀ z,Sm u[z]! := sm_all hS2 (fun i A h => h.1) htl
  have hul := hS2.1
  repeat' (first|(apply id_rw;(apply rx_callC;rfl;rfl;infer_instance;rfl;(apply valued_c <;> (first|assumption|omega|infer_instance));exact Pur.pf;rfl))|refine stpb ?_|(refine stp2 ?_ ?_ <;> intro hc hq <;> try (exfalso;omega))|fail)
  ·have hkn : k < pts.length := by omega
   have hv := valF_lt w hkn (hS2.2 k hkn).1
   have hvs : Sm (valF ts pts[k]! u[k]!) := ⟨Nat.lt_of_lt_of_le hv (Nat.pow_le_pow_right (by decide) (by omega))⟩
   have hvs' : Sm (valF ts pts[(k : Int).toNat]! u[k]!) := hvs
   have hnl := w.nl k hkn
   refine aw_loopA (σ := Nat × (List Nat × Bool)) [0,2,3,9,14,43,44,45,58,59] [] (fun j => [(60,iv (j.1 : Int)),(11,bv j.2.2)]) (fun j => [(0,some (flat cN j.2.1))]) (fun j => j.1 ≤ pts[k]!.next.length ∧ j.2 = ((nxN pts k).take j.1).foldl (bstp opI (valF ts pts[k]! u[k]!)) (u,c) ∧ SG pts (PpA ts pts) j.2.1 ∧ j.2.1[0]! = 0) (fun j => pts[k]!.next.length - j.1) (0,(u,c)) ⟨by omega,rfl,hS2,hE2⟩ ?_
   rintro ⟨j,u2,c2⟩ ⟨hj,hf2,hS3,hE3⟩
   dsimp only at hj hf2 hS3 hE3 ⊢
   have hsm2 : ∀ z,Sm u2[z]! := sm_all hS3 (fun i A h => h.1) htl
   have hul2 := hS3.1
   have hz : j < pts[k]!.next.length → 0 ≤ pts[k]!.next[j]! ∧ pts[k]!.next[j]! < pts.length := fun h => w.nx k hkn _ (getB_mem _ _ h)
   repeat' (first|refine stpb ?_|(refine stp2 ?_ ?_ <;> intro hc hq <;> try (exfalso;omega))|fail)
   ·have hzz := hz (by omega)
    have hed : edge pts k (pts[k]!.next[j]!).toNat := ⟨hkn,by rw [Int.toNat_of_nonneg hzz.1]; exact getB_mem _ _ (by omega)⟩
    have hne : opI u2[(pts[k]!.next[j]!).toNat]! (valF ts pts[k]! u[k]!) ≠ u2[(pts[k]!.next[j]!).toNat]! := fun h => hq (congrArg Int.ofNat h)
    (refine ex3 (j + 1,(_,true)) (Le.renA [(0,0)]) ?_ ?_)
    ·dsimp only
     refine ⟨by omega,?_,SG_step fl w (hS2.2 k hkn) hed hS3,(by rw [getB_set _ _ _ _ (by rw [hS3.1]; exact edge_lt w hed)]; split <;> first|exact hE3|(rename_i q;rw [← q,hE3]; exact Nat.zero_and _))⟩
     rw [bstp_take (by omega),← hf2,bstp_1 hne]; rfl
    ·dsimp only;omega
   ·have hzz := hz (by omega)
    have hne : opI u2[(pts[k]!.next[j]!).toNat]! (valF ts pts[k]! u[k]!) = u2[(pts[k]!.next[j]!).toNat]! := Int.ofNat.inj hq
    (refine ex3 (j + 1,(u2,c2)) (Le.renA [(0,0)]) ?_ ?_)
    ·dsimp only
     refine ⟨by omega,?_,hS3,hE3⟩
     rw [bstp_take (by omega),← hf2,bstp_0 hne]
    ·dsimp only;omega
   ·(refine ex3 (k + 1, (u2, c2)) (Le.renA [(0, 0)]) ?_ ?_)
    ·dsimp only
     refine ⟨by omega,?_,hS3,hE3⟩
     rw [range_succ_foldl,← hf,hf2,List.take_of_length_le (by rw [nxN_len]; omega)]; rfl
    ·dsimp only;omega
  ·have law := swpG_law w fl s false hS
   have hfull : (u, c) = swpG opI (fun i A => valF ts pts[i]! A) pts (s, false) := by
    rw [hf,show k = pts.length by omega]; rfl
   rw [show swpG (fun a s => opI a s) (fun i A => valF ts pts[i]! A) pts (s,false) = (u,c) from hfull.symm] at law
   (refine ex3 (u,c) (Le.renA [(0,0)]) ?_ ?_)
   ·dsimp only
    refine ⟨hS2,hE2,fun h => ?_⟩
    rcases law.2 with ⟨e1,e2⟩ | ⟨e1,_⟩
    ·cases e1;exact e2
    ·dsimp only at e1;rw [h] at e1;cases e1
   ·dsimp only
    have hb : b = true := by assumption
    subst hb
    rcases law.2 with ⟨e1,e2⟩ | ⟨e1,e2⟩
    ·cases e1;simp
    ·dsimp only at e1 e2;subst e1;omega
 ·have hb : b = false := by assumption
  refine rq_le (Le.frzD (d := 8) (i := 0) rfl rfl) ?_
  refine rq_ret rfl ⟨?_,(by (exact pur_sl _ _))⟩
  simp only [oneOf]
  rw [goodA_ext hA (goodA_of w hS hE (hC hb))]
theorem always_c (ts:List Int) (bd:List AL.Stmt) (pts:List Pnt) (A:List Nat) (w:WG ts pts) (hA:GoodA ts pts A):PC Tryz.prog 225 [aG ts bd pts,iv 0] (fun r => r = .imm pts.length (flat cN A)):=by
 refine pc_start Tryz.func225 Tryz.ntmps225 ?_
 repeat' (first|(apply id_rw;(apply rx_callE (k := 243);rfl;exact forwardA_c ts bd pts A w hA;exact Pur.pf;rfl))|refine stpb ?_|refine stpr ?_|fail)
 exact ⟨rfl,(by (exact pur_sl _ _))⟩
theorem maybe_c (ts:List Int) (bd:List AL.Stmt) (pts:List Pnt) (A:List Nat) (w:WG ts pts) (hA:GoodM ts pts A):PC Tryz.prog 185 [aG ts bd pts] (fun r => r = .imm pts.length (flat cN A)):=by
 refine pc_start Tryz.func185 Tryz.ntmps185 ?_
 repeat' (first|(apply id_rw;(apply rx_callE (k := 243);rfl;exact forwardM_c ts bd pts A w hA;exact Pur.pf;rfl))|refine stpb ?_|refine stpr ?_|fail)
 exact ⟨rfl,(by (exact pur_sl _ _))⟩
theorem after_c (ts:List Int) (bd:List AL.Stmt) (pts:List Pnt) (n:Nat) (B:List Nat) (i:Int) (w:WG ts pts) (hn:n = B.length) (hB:B.length = pts.length) (hs:∀ z:Nat,Sm B[z]!) (hi:0 ≤ i ∧ i < pts.length):PC Tryz.prog 231 [aG ts bd pts,.imm n (flat cN B),iv i] (fun r => r = iv (afF pts B i.toNat:Nat)):=by
 subst hn
 have hin : i.toNat < pts.length := by omega
 have hnl := w.nl _ hin
 have hpl := w.pl
 refine pc_start Tryz.func231 Tryz.ntmps231 ?_
 repeat' (first|refine stpb ?_|fail)
 refine aw_loopA (σ := Nat × Nat) [1,17,18] [] (fun k => [(19,iv (k.1 : Int)),(7,iv (k.2 : Int))]) (fun k => []) (fun k => k.1 ≤ pts[i.toNat]!.next.length ∧ k.2 = ((nxN pts i.toNat).take k.1).foldl (fun a k => opU a B[k]!) 0 ∧ Sm k.2) (fun k => pts[i.toNat]!.next.length - k.1) (0,0) ⟨by omega,rfl,inferInstance⟩ ?_
 rintro ⟨k,a⟩ ⟨hk,ha,hsa⟩
 dsimp only at hk ha hsa ⊢
 have hz : k < pts[i.toNat]!.next.length → 0 ≤ pts[i.toNat]!.next[k]! ∧ pts[i.toNat]!.next[k]! < pts.length := fun h => w.nx _ hin _ (getB_mem _ _ h)
 repeat' (first|refine stpb ?_|(refine stp2 ?_ ?_ <;> intro hc hq <;> try (exfalso;omega))|refine stpr ?_|fail)
 ·(refine ex3 (k + 1, _) (Le.renA []) ?_ ?_)
  ·dsimp only
   refine ⟨by omega,?_,inferInstance⟩
   rw [foldl_take _ _ _ _ (by rw [nxN_len]; omega),nxN_get (by omega),← ha]
  ·dsimp only;omega
 ·(refine ⟨?_, rfl⟩; simp only [oneOf, AV.v.injEq, Value.bool.injEq, Value.int.injEq, true_and])
  rw [ha,List.take_of_length_le (by rw [nxN_len]; omega)]; rfl
theorem needed_c (ts:List Int) (bd:List AL.Stmt) (pts:List Pnt) (A:List Nat) (w:WG ts pts) (hA:GoodN ts pts A):PC Tryz.prog 230 [aG ts bd pts] (fun r => r = .imm pts.length (flat cN A)):=by
 have hpl := w.pl
 have hp0 := w.p0
 have htl := w.tl
 refine pc_start Tryz.func230 Tryz.ntmps230 ?_
 repeat' (first|refine stpb ?_|fail)
 refine aw_loopA (σ := List Nat × Bool) [0,3] [] (fun s => [(4,bv s.2)]) (fun s => [(0,some (flat cN s.1))]) (fun s => SN ts pts s.1 ∧ (s.2 = false → ∀ i,i < pts.length → ndS ts pts s.1 i = s.1[i]!)) (fun s => 2 * sumL (s.1.map (fun a => 2 ^ ts.length - a)) + s.2.toNat) (List.replicate pts.length 0,true) ⟨SN_rep,fun h => by cases h⟩ ?_
 rintro ⟨s,b⟩ ⟨hS,hC⟩
 dsimp only at hS hC ⊢
 repeat' (first|refine stpb ?_|(refine stp2 ?_ ?_ <;> intro hc hq <;> try (exfalso;omega))|fail)
 ·refine aw_loopA (σ := Nat × Int × (List Nat × Bool)) [0, 3] [] (fun k => [(5, iv k.2.1), (4, bv k.2.2.2)]) (fun k => [(0, some (flat cN k.2.2.1))]) (fun k => k.1 ≤ pts.length ∧ k.2.1 = (pts.length : Int) - 1 - k.1 ∧ k.2.2 = ((List.range pts.length).reverse.take k.1).foldl (ndStp ts pts) (s, false) ∧ SN ts pts k.2.2.1) (fun k => pts.length - k.1) (0, (pts.length : Int) - 1, (s, false)) ⟨by omega, by simp, rfl, hS⟩ ?_
  rintro ⟨k,z,u,c⟩ ⟨hk,hz,hf,hS2⟩
  dsimp only at hk hz hf hS2 ⊢
  have hsm : ∀ z : Nat,Sm u[z]! := sm_all hS2.1 (fun i A h => h.1) htl
  have hul := hS2.1.1
  have hst := fun h : z.toNat < pts.length => (w.set z.toNat h).1
  have hst2 : setAt pts[z.toNat]! < 62 := by
   by_cases h : z.toNat < pts.length
   ·have := hst h;omega
   ·rw [getElem!_neg pts z.toNat h]; decide
  have hs1 : Sm (wS ts pts[z.toNat]! [1,2,3]) := mkBits_sm (by omega)
  have hs2 : Sm (sbit pts[z.toNat]!) := sbit_sm (by omega)
  have hs3 : Sm (afF pts u z.toNat) := by
   unfold afF
   have : ∀ (L : List Nat) (a : Nat), Sm a → Sm (L.foldl (fun a k => a ||| u[k]!) a) := by
    intro L;induction L with
    | nil => exact fun a h => h
    | cons x L ih => exact fun a h => ih _ (inferInstance : Sm (a ||| u[x]!))
   exact this _ _ inferInstance
  have hlaw := fun h : z.toNat < pts.length => ndStp_law w u c z.toNat h hS2
  repeat' (first|(apply id_rw;(first|(apply rx_callE (k := 149);rfl;(apply used_c <;> (assumption));exact Pur.pf;rfl)|(apply rx_callE (k := 245);rfl;(apply setBit_c <;> (assumption));exact Pur.pf;rfl)|(apply rx_lendE (k := 231);(case ha => rfl);(case hl => (repeat' (first|exact lendL_nil|apply lendL_cons|exact lendV_v|exact lendV_own rfl inferInstance|exact lendV_iptr inferInstance)));(case h => (apply after_c <;> (first|assumption|omega)));(case hfr|hN => rfl);(case hmd => infer_instance))))|refine stpb ?_|(refine stp2 ?_ ?_ <;> intro hc hq <;> try (exfalso;omega))|refine stpd ?_|fail)
  ·have hzn : z.toNat < pts.length := by omega
   have hne : ndS ts pts u z.toNat ≠ u[z.toNat]! := fun h => hq (congrArg Int.ofNat h)
   have hl := hlaw hzn
   rw [ndStp_1 hne] at hl
   have hrg : (List.range pts.length).reverse[k]! = z.toNat := by rw [revR_get (by omega)]; omega
   (refine ex3 (k + 1,_,(_,true)) (Le.renA [(0,0)]) ?_ ?_)
   ·dsimp only
    refine ⟨by omega,by omega,?_,hl.1⟩
    rw [foldl_take _ _ _ _ (by simp;omega),← hf,hrg,ndStp_1 hne]; rfl
   ·dsimp only;omega
  ·have hzn : z.toNat < pts.length := by omega
   have hne : ndS ts pts u z.toNat = u[z.toNat]! := Int.ofNat.inj hq
   have hrg : (List.range pts.length).reverse[k]! = z.toNat := by rw [revR_get (by omega)]; omega
   (refine ex3 (k + 1,_,(u,c)) (Le.renA [(0,0)]) ?_ ?_)
   ·dsimp only
    refine ⟨by omega,by omega,?_,hS2⟩
    rw [foldl_take _ _ _ _ (by simp;omega),← hf,hrg,ndStp_0 hne]
   ·dsimp only;omega
  ·have law := ndSwp_law w s false hS
   have hfull : (u, c) = ndSwp ts pts (s, false) := by
    rw [hf,List.take_of_length_le (by simp;omega)]; rfl
   rw [← hfull] at law
   (refine ex3 (u,c) (Le.renA [(0,0)]) ?_ ?_)
   ·dsimp only
    refine ⟨hS2,fun h => ?_⟩
    rcases law.2 with ⟨e1,e2⟩ | ⟨e1,_⟩
    ·cases e1;exact e2
    ·dsimp only at e1;rw [h] at e1;cases e1
   ·dsimp only
    have hb : b = true := by assumption
    subst hb
    rcases law.2 with ⟨e1,e2⟩ | ⟨e1,e2⟩
    ·cases e1;simp
    ·dsimp only at e1 e2;subst e1;omega
 ·have hb : b = false := by assumption
  refine rq_le (Le.frzD (d := 2) (i := 0) rfl rfl) ?_
  refine rq_ret rfl ⟨?_,(by (exact pur_sl _ _))⟩
  simp only [oneOf]
  rw [goodN_ext hA (goodN_of w hS (hC hb))]
theorem liveAfter_c (ts:List Int) (bd:List AL.Stmt) (pts:List Pnt) (B A:List Nat) (w:WG ts pts) (hB:GoodN ts pts B) (hA:GoodL ts pts A):PC Tryz.prog 170 [aG ts bd pts] (fun r => r = .imm pts.length (flat cN A)):=by
 have hpl := w.pl
 have htl := w.tl
 have hBl := hB.1
 have hsm : ∀ z : Nat, Sm B[z]! := by
  intro z
  by_cases hz : z < pts.length
  ·refine ⟨Nat.lt_of_lt_of_le (Nat.lt_pow_two_of_testBit _ (n := 6) fun v hv => ?_) (by decide)⟩
   cases hq : B[z]!.testBit v with
   | false => rfl
   | true => have := Nd_lt w ((hB.2 z hz v).1 hq);dsimp only at this;omega
  ·rw [getElem!_neg B z (by rw [hBl]; exact hz)]; exact ⟨by decide⟩
 refine pc_start Tryz.func170 Tryz.ntmps170 ?_
 repeat' (first|(apply id_rw;(apply rx_callE (k := 230);rfl;(apply needed_c <;> (assumption));exact Pur.pf;rfl))|refine stpb ?_|fail)
 refine AW.le ?_ (Le.nilOwn (d := 4) 1 rfl (by decide))
 refine aw_loopA (σ := Nat × List Nat) [0,3,12] [] (fun k => [(13,iv (k.1 : Int)),(4,.own 0 0 k.1 1)]) (fun k => [(0,some (flat cN k.2))]) (fun k => k.1 ≤ pts.length ∧ k.2 = (List.range k.1).map (afF pts B)) (fun k => pts.length - k.1) (0,[]) ⟨by omega,rfl⟩ ?_
 rintro ⟨k,u⟩ ⟨hk,hu⟩
 dsimp only at hk hu ⊢
 have hul : u.length = k := by rw [hu]; simp
 repeat' (first|(apply id_rw;first|(apply rx_buildSliceI (t := _);rfl;rfl;rfl;exact (rfl:_=some [_]);rfl;rfl)|(apply rx_callE (k := 231);rfl;(apply after_c <;> (first|assumption|omega));exact Pur.pf;rfl))|refine stpb ?_|(refine stp2 ?_ ?_ <;> intro hc hq <;> try (exfalso;omega))|fail)
 ·(refine ex3 (k + 1, _) (Le.renA [(0, 2)]) ?_ ?_)
  ·dsimp only
   refine ⟨by omega,?_⟩
   rw [hu,List.range_succ,List.map_append]; rfl
  ·dsimp only;omega
 ·refine rq_le (Le.frzD (d := 2) (i := 0) rfl rfl) ?_
  refine rq_ret rfl ⟨?_,(by (exact pur_sl _ _))⟩
  simp only [oneOf]
  have hkn : k = pts.length := by omega
  subst hkn
  rw [goodL_ext hA (goodL_of w hB),hu]
theorem bits_c (A:Nat) (hA:Sm A):PC Tryz.prog 148 [iv (A:Int)] (fun r => r = sl cI (bitsI A)):=by
 refine pc_start Tryz.func148 Tryz.ntmps148 ?_
 repeat' (first|refine stpb ?_|fail)
 refine AW.le ?_ (Le.nilOwn (d := 3) 1 rfl (by decide))
 refine aw_loopA (σ := Nat × List Int × Nat) [0] [] (fun k => [(4,iv (k.1 : Int)),(3,.own 0 0 k.2.2 1)]) (fun k => [(0,some (flat cI k.2.1))]) (fun k => k.1 ≤ 62 ∧ k.2.1 = ((List.range k.1).filter (A.testBit ·)).map (fun v : Nat => (v : Int)) ∧ k.2.2 = k.2.1.length ∧ k.2.2 ≤ k.1) (fun k => 62 - k.1) (0,[],0) ⟨by omega,rfl,rfl,Nat.le_refl _⟩ ?_
 rintro ⟨k,u,m⟩ ⟨hk,hu,hm,hmk⟩
 dsimp only at hk hu hm hmk ⊢
 repeat' (first|(apply id_rw;(apply rx_buildSliceI (t := _);rfl;rfl;rfl;exact (rfl:_=some [_]);rfl;rfl))|refine stpb ?_|(refine stp2 ?_ ?_ <;> intro hc hq <;> try (exfalso;omega))|fail)
 ·have hlt := shr_pos hA (show 0 < ((A >>> k : Nat) : Int) by assumption)
  (refine ex3 (k + 1,_,_) (Le.renA [(0,2)]) ?_ ?_)
  ·dsimp only
   exact ⟨by omega,filt_snoc hq hu,by simp;omega,by omega⟩
  ·dsimp only;omega
 ·have hlt := shr_pos hA (show 0 < ((A >>> k : Nat) : Int) by assumption)
  (refine ex3 (k + 1,u,m) (Le.renA [(0,0)]) ?_ ?_)
  ·dsimp only
   exact ⟨by omega,filt_skip hq hu,hm,by omega⟩
  ·dsimp only;omega
 ·(refine rq_le (Le.frzD (d := 2) (i := 0) rfl rfl) ?_; refine rq_ret rfl ?_)
  refine ⟨?_,(by (exact pur_sl _ _))⟩
  simp only [oneOf,sl]
  rw [bitsI_pre (k := k) (fun v hv => shr_zero hq v hv) (by omega) hA,← hu,← hm]
theorem loanBits_c (A:Nat) (hA:Sm A):PC Tryz.prog 227 [.v (.int .u64 (A:Int))] (fun r => r = sl cI (bitsI A)):=by
 refine pc_start Tryz.func227 Tryz.ntmps227 ?_
 repeat' (first|refine stpb ?_|fail)
 refine AW.le ?_ (Le.nilOwn (d := 3) 1 rfl (by decide))
 refine aw_loopA (σ := Nat × List Int × Nat) [0] [] (fun k => [(5,iv (k.1 : Int)),(3,.own 0 0 k.2.2 1)]) (fun k => [(0,some (flat cI k.2.1))]) (fun k => k.1 ≤ 64 ∧ k.2.1 = ((List.range k.1).filter (A.testBit ·)).map (fun v : Nat => (v : Int)) ∧ k.2.2 = k.2.1.length ∧ k.2.2 ≤ k.1) (fun k => 64 - k.1) (0,[],0) ⟨by omega,rfl,rfl,Nat.le_refl _⟩ ?_
 rintro ⟨k,u,m⟩ ⟨hk,hu,hm,hmk⟩
 dsimp only at hk hu hm hmk ⊢
 repeat' (first|(apply id_rw;(apply rx_buildSliceI (t := _);rfl;rfl;rfl;exact (rfl:_=some [_]);rfl;rfl))|refine stpb ?_|(refine stp2 ?_ ?_ <;> intro hc hq <;> try (exfalso;omega))|fail)
 ·(refine ex3 (k + 1, _, _) (Le.renA [(0, 2)]) ?_ ?_)
  ·dsimp only
   exact ⟨by omega,filt_snoc hq hu,by simp;omega,by omega⟩
  ·dsimp only;omega
 ·(refine ex3 (k + 1, u, m) (Le.renA [(0, 0)]) ?_ ?_)
  ·dsimp only
   exact ⟨by omega,filt_skip hq hu,hm,by omega⟩
  ·dsimp only;omega
 ·(refine rq_le (Le.frzD (d := 2) (i := 0) rfl rfl) ?_; refine rq_ret rfl ?_)
  refine ⟨?_,(by (exact pur_sl _ _))⟩
  simp only [oneOf,sl]
  rw [bitsI_pre (k := k) (fun v hv => Nat.testBit_lt_two_pow (Nat.lt_of_lt_of_le hA.pf (Nat.pow_le_pow_right (by decide) (by omega)))) (by omega) hA,← hu,← hm]
theorem ofVars_c (ts:List Int) (bd:List AL.Stmt) (pts:List Pnt) (V:Nat) (w:WG ts pts) (hV:Sm V):PC Tryz.prog 281 [aG ts bd pts,iv (V:Int)] (fun r => r = .v (.int .u64 (ofV pts V:Nat))):=by
 have hpl := w.pl
 have htl := w.tl
 refine pc_start Tryz.func281 Tryz.ntmps281 ?_
 repeat' (first|refine stpb ?_|fail)
 refine aw_loopA (σ := Nat × Nat) [1,11,12] [] (fun k => [(13,iv (k.1 : Int)),(5,.v (.int .u64 (k.2 : Int)))]) (fun k => []) (fun k => k.1 ≤ pts.length ∧ k.2 = mkBits (fun l => isLn pts[l]! && V.testBit (pts[l]!.y.toNat)) k.1) (fun k => pts.length - k.1) (0,0) ⟨by omega,rfl⟩ ?_
 rintro ⟨k,A⟩ ⟨hk,hA⟩
 dsimp only at hk hA ⊢
 have hsm : Sm A := hA ▸ mkBits_sm (by omega)
 cases hln : isLn pts[k]!
 ·repeat' (first | (apply id_rw; (apply rx_callE (k := 280);rfl;(apply isLoan_c);exact Pur.pf;rfl)) | refine stpb ?_ | (refine stp2 ?_ ?_ <;> intro hc hq <;> try (exfalso; omega)) | refine stpr ?_|fail)
  ·(refine ex3 (k + 1, A) (Le.renA []) ?_ ?_)
   ·dsimp only
    exact ⟨by omega,by rw [hA]; exact mkBits_skip _ _ (by rw [hln]; rfl)⟩
   ·dsimp only;omega
  ·(refine ⟨?_, rfl⟩; simp only [oneOf, AV.v.injEq, Value.bool.injEq, Value.int.injEq, true_and])
   rw [hA,show k = pts.length by omega]; rfl
 ·have hy := fun (h : k < pts.length) => isLn_y w h hln
  repeat' (first|(apply id_rw;first|(apply rx_shl1;rfl;rfl;infer_instance;omega;rfl;(case' kk => intro hsm))|(apply rx_callE (k := 280);rfl;(apply isLoan_c);exact Pur.pf;rfl))|refine stpb ?_|(refine stp2 ?_ ?_ <;> intro hc hq <;> try (exfalso;omega))|refine stpr ?_|fail)
  ·(refine ex3 (k + 1, _) (Le.renA []) ?_ ?_)
   ·dsimp only
    exact ⟨by omega,by rw [hA]; exact mkBits_succ _ _ (by rw [hln,Bool.true_and]; exact (and1_iff _ _).1 hq)⟩
   ·dsimp only;omega
  ·(refine ex3 (k + 1, A) (Le.renA []) ?_ ?_)
   ·dsimp only
    exact ⟨by omega,by rw [hA]; exact mkBits_skip _ _ (by rw [hln,Bool.true_and]; cases hb : V.testBit (pts[k]!.y.toNat) with|false => rfl|true => exact absurd ((and1_iff _ _).2 hb) hq)⟩
   ·dsimp only;omega
  ·(refine ⟨?_, rfl⟩; simp only [oneOf, AV.v.injEq, Value.bool.injEq, Value.int.injEq, true_and])
   rw [hA,show k = pts.length by omega]; rfl
end Go.Proofs.YtjnhlgpbojggnaaGreatDoor
