/-
 A part of the proofs over this program: rules and contracts of its functions (the contracts).
-/
import Derived.Test.YtjnhlgpbojggnaaGreatDoorS2B01
set_option linter.unusedVariables false
set_option linter.unusedSimpArgs false
set_option maxHeartbeats 8000000
set_option maxRecDepth 4000
attribute [local irreducible] Go.AL.RW Go.AL.AW Go.AL.Stop
namespace Go.Proofs.YtjnhlgpbojggnaaGreatDoor
open Go.AL Go.RowKit
variable {N : Nat} {Q : Exit → AS → Prop} {all : Array Oper} {rest : List Oper} {tsl : List (Nat × AV)} {hsl : List (Nat × Option (List AV))} {nidl : Nat} {z0 : Lo} {md : Md} {d : Nat} {ty : TypeId} {pos : String} {af : Array Edge} {tys : Array TypeId}
theorem RdC_kav {w:World}{bad:Nat → Prop}{ι:Pl}:∀ {cs cs':List AV},All2 (fun c c' => c' = c ∨ c' = kAV c) cs cs' → ∀ {b β:Nat},RdC w bad ι cs b β → RdC w bad ι cs' b β
 | _,_,.nil,_,_,h => h
 | _, _, .cons h1 h2, b, β, h => by
  simp only [RdC] at h ⊢
  obtain ⟨⟨x,q1,q2,q3⟩,q4⟩ := h
  refine ⟨⟨x,q1,q2,?_⟩,RdC_kav h2 q4⟩
  rcases h1 with rfl|rfl
  ·exact q3
  ·exact Rd_kAV q3
theorem kav_app:∀ (l:List AV){a b:List AV},All2 (fun c c' => c' = c ∨ c' = kAV c) a b → All2 (fun c c' => c' = c ∨ c' = kAV c) (l ++ a) (l ++ b)
 | [],_,_,h => h
 | _ :: l,_,_,h => .cons (.inl rfl) (kav_app l h)
theorem end_le {α:Type}{p q:α → Prop}{F:α → AS}{s s':AS}(L:Le s s') (h:∃ j,p j ∧ q j ∧ Le s' (F j)):∃ j,p j ∧ q j ∧ Le s (F j):=by
 obtain ⟨j,h1,h2,h3⟩ := h
 exact ⟨j,h1,h2,L.trans h3⟩
theorem Le.stmtN {ts:List (Nat × AV)}{hs:List (Nat × Option (List AV))}{n i:Nat}{z0:Lo}{xs:List AL.Stmt}(s:AL.Stmt){m:Nat}{a b:AV}(hm:m = xs.length)
  (ha : a = sl cStmt s.th ∨ (a = .v (.slice none 0 0) ∧ s.th = [])) (hb : b = sl cStmt s.el ∨ (b = .v (.slice none 0 0) ∧ s.el = []))
  (hi : lkH hs i = some (((flat cStmt xs).drop 0).take (m * 6) ++ List.take (1 * 6) [iv s.op,iv s.x,iv s.y,iv s.n,a,b])) : Le ⟨ts,hs,n,z0⟩ ⟨ts,(i,some (flat cStmt (xs ++ [s]))) :: hs,n,z0⟩ := by
 have e : flat cStmt (xs ++ [s]) = ((flat cStmt xs).drop 0).take (m * 6) ++ [iv s.op,iv s.x,iv s.y,iv s.n,sl cStmt s.th,sl cStmt s.el] := (app_stmt hm).symm
 have k : All2 (fun c c' => c' = c ∨ c' = kAV c) (((flat cStmt xs).drop 0).take (m * 6) ++ List.take (1 * 6) [iv s.op, iv s.x, iv s.y, iv s.n, a, b]) (flat cStmt (xs ++ [s])) := by
  rw [e]
  refine kav_app _ (.cons (.inl rfl) (.cons (.inl rfl) (.cons (.inl rfl) (.cons (.inl rfl) (.cons ?_ (.cons ?_ .nil))))))
  ·rcases ha with h | ⟨h, h2⟩
   ·exact .inl h.symm
   ·refine .inr ?_; rw [h2,h]; rfl
  ·rcases hb with h | ⟨h, h2⟩
   ·exact .inl h.symm
   ·refine .inr ?_; rw [h2,h]; rfl
 refine Le.cells hi ?_ fun w bad ι b β h => RdC_kav k h
 rw [e]; simp
theorem copy_c0 (mm:Nat) (hmm:mm ≤ 1048576) (copy_ih:∀ l,cntL l < mm → PC Tryz.prog 100 [sl cStmt l] (fun r => r = sl cStmt l)) (l:List AL.Stmt) (hs:cntL l ≤ mm):PC Tryz.prog 100 [sl cStmt l] (fun r => r = sl cStmt l):=by
 have hlen := cntL_len l
 refine pc_start Tryz.func100 Tryz.ntmps100 ?_
 repeat' (first|refine stpb ?_|fail)
 refine aw_loopA (σ := Nat × List AL.Stmt) [0] [] (fun k => [(4,iv (k.1 : Int)),(3,.own 0 0 k.1 6)]) (fun k => [(0,some (flat cStmt k.2))]) (fun k => k.1 ≤ l.length ∧ k.2 = l.take k.1) (fun k => l.length - k.1) (0,[]) ⟨by omega,rfl⟩ ?_
 rintro ⟨k,xs⟩ ⟨hk,hxs⟩
 dsimp only at hk hxs ⊢
 have hck := cntL_at l k
 have hct := cnt_th l[k]!
 have hln : xs.length = k := by rw [hxs,List.length_take]; omega
 repeat' (first|(apply id_rw;first|(apply rx_buildSliceI (t := _);rfl;rfl;rfl;(exact (rfl:_=some [_,_,_,_,_,_]));rfl;rfl)|(apply rx_callE (k := 100);rfl;(apply copy_ih <;> (omega));exact Pur.pf;rfl))|refine stpb ?_|(refine stp2 ?_ ?_ <;> intro hc hq <;> try (exfalso;omega))|fail)
 ·(refine ex3 (k + 1, _) (Le.renA [(0, 3)]) ?_ ?_)
  ·exact ⟨by dsimp only;omega,by dsimp only;rw [hxs,take_succB l k (by omega)]⟩
  ·dsimp only;omega
 ·have hel : l[k]!.el = [] := List.eq_nil_of_length_eq_zero (by omega)
  refine end_le (Le.stmtN (i := 3) l[k]! hln.symm (.inl rfl) (.inr ⟨rfl,hel⟩) rfl) ?_
  (refine ex3 (k + 1,_) (Le.renA [(0,3)]) ?_ ?_)
  ·exact ⟨by dsimp only;omega,by dsimp only;rw [hxs,take_succB l k (by omega)]⟩
  ·dsimp only;omega
 ·have hth : l[k]!.th = [] := List.eq_nil_of_length_eq_zero (by omega)
  refine end_le (Le.stmtN (i := 3) l[k]! hln.symm (.inr ⟨rfl,hth⟩) (.inl rfl) rfl) ?_
  (refine ex3 (k + 1,_) (Le.renA [(0,3)]) ?_ ?_)
  ·exact ⟨by dsimp only;omega,by dsimp only;rw [hxs,take_succB l k (by omega)]⟩
  ·dsimp only;omega
 ·have hth : l[k]!.th = [] := List.eq_nil_of_length_eq_zero (by omega)
  have hel : l[k]!.el = [] := List.eq_nil_of_length_eq_zero (by omega)
  refine end_le (Le.stmtN (i := 3) l[k]! hln.symm (.inr ⟨rfl,hth⟩) (.inr ⟨rfl,hel⟩) rfl) ?_
  (refine ex3 (k + 1,_) (Le.renA [(0,3)]) ?_ ?_)
  ·exact ⟨by dsimp only;omega,by dsimp only;rw [hxs,take_succB l k (by omega)]⟩
  ·dsimp only;omega
 ·have hke : k = l.length := by omega
  (refine rq_le (Le.frzD (d := 2) (i := 0) rfl rfl) ?_; refine rq_ret rfl ?_)
  refine ⟨?_,Pur.pf⟩
  rw [hxs,hke,List.take_length]; rfl
theorem copy_c (l:List AL.Stmt) (hb:cntL l ≤ 1048576):PC Tryz.prog 100 [sl cStmt l] (fun r => r = sl cStmt l):=by
 have key : ∀ m, m ≤ 1048576 → ∀ l, cntL l ≤ m → PC Tryz.prog 100 [sl cStmt l] (fun r => r = sl cStmt l) := by
  intro m
  induction m with
  | zero => intro hm l hl;exact copy_c0 0 hm (fun l h => by omega) l hl
  | succ m ih => intro hm l hl;exact copy_c0 (m + 1) hm (fun l h => ih (by omega) l (by omega)) l hl
 exact key (cntL l) hb l (Nat.le_refl _)
theorem copyM_c (l:List AL.Stmt) (hs:cntL l ≤ 1048576):MC Tryz.prog 100 [sl cStmt l] [] 0 (fun _:Unit => True) (fun _ => .own 0 0 l.length 6) (fun _ => [(0,some (flat cStmt l))]):=by
 have hlen := cntL_len l
 refine mc_start Tryz.func100 Tryz.ntmps100 ?_
 repeat' (first|refine stpb ?_|fail)
 refine aw_loopA (σ := Nat × List AL.Stmt) [0] [] (fun k => [(4,iv (k.1 : Int)),(3,.own 0 0 k.1 6)]) (fun k => [(0,some (flat cStmt k.2))]) (fun k => k.1 ≤ l.length ∧ k.2 = l.take k.1) (fun k => l.length - k.1) (0,[]) ⟨by omega,rfl⟩ ?_
 rintro ⟨k,xs⟩ ⟨hk,hxs⟩
 dsimp only at hk hxs ⊢
 have hck := cntL_at l k
 have hct := cnt_th l[k]!
 have hln : xs.length = k := by rw [hxs,List.length_take]; omega
 repeat' (first|(apply id_rw;first|(apply rx_buildSliceI (t := _);rfl;rfl;rfl;(exact (rfl:_=some [_,_,_,_,_,_]));rfl;rfl)|(apply rx_callE (k := 100);rfl;(apply copy_c <;> (omega));exact Pur.pf;rfl))|refine stpb ?_|(refine stp2 ?_ ?_ <;> intro hc hq <;> try (exfalso;omega))|fail)
 ·(refine ex3 (k + 1, _) (Le.renA [(0, 3)]) ?_ ?_)
  ·exact ⟨by dsimp only;omega,by dsimp only;rw [hxs,take_succB l k (by omega)]⟩
  ·dsimp only;omega
 ·have hel : l[k]!.el = [] := List.eq_nil_of_length_eq_zero (by omega)
  refine end_le (Le.stmtN (i := 3) l[k]! hln.symm (.inl rfl) (.inr ⟨rfl,hel⟩) rfl) ?_
  (refine ex3 (k + 1,_) (Le.renA [(0,3)]) ?_ ?_)
  ·exact ⟨by dsimp only;omega,by dsimp only;rw [hxs,take_succB l k (by omega)]⟩
  ·dsimp only;omega
 ·have hth : l[k]!.th = [] := List.eq_nil_of_length_eq_zero (by omega)
  refine end_le (Le.stmtN (i := 3) l[k]! hln.symm (.inr ⟨rfl,hth⟩) (.inl rfl) rfl) ?_
  (refine ex3 (k + 1,_) (Le.renA [(0,3)]) ?_ ?_)
  ·exact ⟨by dsimp only;omega,by dsimp only;rw [hxs,take_succB l k (by omega)]⟩
  ·dsimp only;omega
 ·have hth : l[k]!.th = [] := List.eq_nil_of_length_eq_zero (by omega)
  have hel : l[k]!.el = [] := List.eq_nil_of_length_eq_zero (by omega)
  refine end_le (Le.stmtN (i := 3) l[k]! hln.symm (.inr ⟨rfl,hth⟩) (.inr ⟨rfl,hel⟩) rfl) ?_
  (refine ex3 (k + 1,_) (Le.renA [(0,3)]) ?_ ?_)
  ·exact ⟨by dsimp only;omega,by dsimp only;rw [hxs,take_succB l k (by omega)]⟩
  ·dsimp only;omega
 ·have hke : k = l.length := by omega
  have hxl : xs = l := by rw [hxs,hke,List.take_length]
  subst hke
  refine rq_ret rfl ?_
  refine mc_ret () trivial ?_ ⟨sE ?_,trivial⟩
  ·rfl
  ·rw [hxl]
theorem rx_copyM {l:List AL.Stmt}{x0:Operand}(ha0:ev (lk tsl) x0 = some (sl cStmt l)) (hmc:MC Tryz.prog 100 [sl cStmt l] [] 0 (fun _:Unit => True) (fun _ => .own 0 0 l.length 6) (fun _ => [(0,some (flat cStmt l))])) (hM:Nat.ble (nidl + 1) big = true) (hN:Nat.blt d N = true){md':Md}[hmd:MdA md (rOs [x0] ++ []) (List.map Sum.inr (List.map Prod.fst ([(nidl,some (flat cStmt l))]:List (Nat × Option (List AV)))) ++ [.inl d]) md'] (kk:RW Tryz.prog N all Q md' rest ⟨(d,.own nidl 0 l.length 6) :: tsl,wrH hsl [(nidl,some (flat cStmt l))],nidl + 1,z0⟩):RW Tryz.prog N all Q md (⟨some d,.call ⟨.value (.func 100),#[x0],tys⟩,ty,pos,af,none⟩ :: rest) ⟨tsl,hsl,nidl,z0⟩:=by
 exact rx_mcallA (l := [x0]) [] 1 [(nidl,some (flat cStmt l))] hmc (avs := [sl cStmt l]) (by simp only [evL,ha0]) rfl hM hN (md' := md') (hmd := hmd) kk
theorem rx_copyOf {q:Prg}{x0:Operand}(ha0:ev (lk tsl) x0 = some (aPrg q)) (hmc:MC Tryz.prog 58 [aPrg q] [] 0 (fun _:Unit => True) (fun _ => .agg [.own 3 0 q.types.length 1,.own 4 0 q.body.length 6]) (fun _ => [(3,some (flat cI q.types)),(4,some (flat cStmt q.body))])) (hM:Nat.ble (nidl + 5) big = true) (hN:Nat.blt d N = true){md':Md}[hmd:MdA md (rOs [x0] ++ []) (List.map Sum.inr (List.map Prod.fst ([((nidl + 3),some (flat cI q.types)),((nidl + 4),some (flat cStmt q.body))]:List (Nat × Option (List AV)))) ++ [.inl d]) md'] (kk:RW Tryz.prog N all Q md' rest ⟨(d,.agg [.own (nidl + 3) 0 q.types.length 1,.own (nidl + 4) 0 q.body.length 6]) :: tsl,wrH hsl [((nidl + 3),some (flat cI q.types)),((nidl + 4),some (flat cStmt q.body))],nidl + 5,z0⟩):RW Tryz.prog N all Q md (⟨some d,.call ⟨.value (.func 58),#[x0],tys⟩,ty,pos,af,none⟩ :: rest) ⟨tsl,hsl,nidl,z0⟩:=by
 exact rx_mcallA (l := [x0]) [] 5 [((nidl + 3),some (flat cI q.types)),((nidl + 4),some (flat cStmt q.body))] hmc (avs := [aPrg q]) (by simp only [evL,ha0]) rfl hM hN (md' := md') (hmd := hmd) kk
theorem copyOf_c (q:Prg) (hs:cntL q.body ≤ 1048576) (ht:q.types.length ≤ 1048576):MC Tryz.prog 58 [aPrg q] [] 0 (fun _:Unit => True) (fun _ => .agg [.own 3 0 q.types.length 1,.own 4 0 q.body.length 6]) (fun _ => [(3,some (flat cI q.types)),(4,some (flat cStmt q.body))]):=by
 refine mc_start Tryz.func58 Tryz.ntmps58 ?_
 repeat' (first|(apply id_rw;(apply rx_copyM;rfl;(apply copyM_c;assumption);rfl;rfl))|refine stpb ?_|refine stpd ?_|fail)
 refine rq_ret rfl ?_
 refine mc_ret () trivial ?_ ⟨sE ?_,sE ?_,trivial⟩
 ·show AV.agg [AV.own 3 0 (0 + q.types.length) 1, AV.own 4 0 q.body.length 6] = _
  rw [Nat.zero_add]
 ·rfl
 ·rfl
theorem cntS_uOp (s:AL.Stmt) (a:Int):cntS (uOp s a) = cntS s := by simp [cntS_def,uOp,AL.Stmt.th,AL.Stmt.el]
theorem cntS_uX (s:AL.Stmt) (a:Int):cntS (uX s a) = cntS s := by simp [cntS_def,uX,AL.Stmt.th,AL.Stmt.el]
theorem cntS_uY (s:AL.Stmt) (a:Int):cntS (uY s a) = cntS s := by simp [cntS_def,uY,AL.Stmt.th,AL.Stmt.el]
theorem cntS_uN (s:AL.Stmt) (a:Int):cntS (uN s a) = cntS s := by simp [cntS_def,uN,AL.Stmt.th,AL.Stmt.el]
theorem cntL_set:∀ (xs:List AL.Stmt) (k:Nat) (y:AL.Stmt),k < xs.length → cntS y = cntS xs[k]! → cntL (xs.set k y) = cntL xs
 | [],k,y,h,_ => by simp at h
 | x :: xs,0,y,_,h => by simp only [List.set_cons_zero,cntL]; simp only [List.getElem!_cons_zero] at h;omega
 | x :: xs, k + 1, y, h, h2 => by
  simp only [List.set_cons_succ,cntL]
  rw [cntL_set xs k y (by simpa using h) (by rw [h2]; simp only [List.getElem!_cons_succ])]
theorem cntL_rep (s:AL.Stmt):∀ k,cntL (List.replicate k s) = k * cntS s
 | 0 => by simp [cntL]
 | k + 1 => by simp only [List.replicate_succ,cntL,cntL_rep s k,Nat.succ_mul]; omega
theorem cntL_del:∀ (xs:List AL.Stmt) (k:Nat),cntL (xs.take k ++ xs.drop (k + 1)) ≤ cntL xs
 | [],k => by simp [cntL]
 | x :: xs,0 => by simp [cntL]
 | x :: xs,k + 1 => by have := cntL_del xs k;simp only [List.take_succ_cons,List.drop_succ_cons,List.cons_append,cntL]; omega
theorem bnd_pos {T:Nat → Option AV}{x:Operand}{dd:Nat}{k:IntKind}{m:Int}(hx:ev T x = some (.v (.int k m))) (h:0 ≤ m):bndA T (some x) dd = some m.toNat:=by
 simp only [bndA,hx]; rw [if_pos h]
section
variable {P : Program} {N : Nat} {Q : Exit → AS → Prop} {all : Array Oper} {rest : List Oper} {ts : List (Nat × AV)} {hs : List (Nat × Option (List AV))} {n : Nat} {z0 : Lo} {md : Md}
variable {d : Nat} {ty : TypeId} {pos : String} {af : Array Edge}
theorem rx_sliceOh {t el:TypeId}{x:Operand}{hi:Option Operand}{i o m e h:Nat}[ht:SlT P t el] [he:SzT P el e] (hx:ev (lk ts) x = some (.own i o m e))
  (hh : bndA (lk ts) hi m = some h) (hb : h ≤ m) (hN : Nat.blt d N = true) {md' : Md} [hmd : MdA md (rO x ++ (rB none ++ rB hi)) [.inl d] md'] (kk : RW P N all Q md' rest ⟨(d,.own i o h e) :: ts,hs,n,z0⟩) :
  RW P N all Q md (⟨some d,.slice t x none hi none,ty,pos,af,none⟩ :: rest) ⟨ts,hs,n,z0⟩ :=
 rx_slice (m := m) (l := 0) (h := h) hx rfl rfl hh (by simp [sSl,hb]) hN (md' := md') (hmd := hmd) kk
end
theorem sC_ownD {hs:List (Nat × Option (List AV))}{xs:List AL.Stmt}{i k n:Nat}(hH:lkH hs i = some (flat cStmt xs)) (hn:n = xs.length - k):sCells (lkH hs) 6 (kAV (.own i (0 + k * 6) n 6)) = some (n,flat cStmt (xs.drop k)):=by
 show ((lkH hs i).bind fun cs => if n * 6 ≤ (cs.drop (0 + k * 6)).length then some (n,(cs.drop (0 + k * 6)).take (n * 6)) else none) = _
 rw [hH,Option.bind_some,Nat.zero_add]
 have h1 : (flat cStmt xs).length = xs.length * 6 := flat_length cStmt xs
 have h3 : (flat cStmt xs).drop (k * 6) = flat cStmt (xs.drop k) := by
  have h4 : flat cStmt xs = flat cStmt (xs.take k) ++ flat cStmt (xs.drop k) := by rw [flat_append,List.take_append_drop]
  have h5 : (flat cStmt (xs.take k)).length = (xs.take k).length * 6 := flat_length cStmt _
  by_cases hk : k ≤ xs.length
  ·rw [h4,← show (flat cStmt (xs.take k)).length = k * 6 from by rw [h5,List.length_take]; congr 1;omega,List.drop_left]
  ·rw [List.drop_of_length_le (by omega),List.drop_of_length_le (by omega)]; rfl
 rw [h3]
 have h2 : (flat cStmt (xs.drop k)).length = (xs.length - k) * 6 := by rw [flat_length cStmt (e := 6),List.length_drop]
 rw [if_pos (by omega),List.take_of_length_le (by omega)]
theorem app_del {xs ys:List AL.Stmt}{k:Nat}(hk:k ≤ xs.length):((flat cStmt xs).drop 0).take (k * 6) ++ flat cStmt ys = flat cStmt (xs.take k ++ ys):=by
 rw [List.drop_zero,flat_take cStmt (e := 6),flat_append]
theorem mutate_c (bs:List UInt8) (p:Nat) (q:Prg) (hb:bs.length ≤ 2000) (hp:p ≤ 900000) (hs:cntL q.body ≤ 10000) (ht:q.types.length ≤ 10000):MC Tryz.prog 54 [.optr 0 0,aPrg q] [(0,some (cRd bs p))] 1 (fun x:Prg × Nat => cntL x.1.body ≤ 32 * cntL q.body ∧ x.1.types.length ≤ q.types.length + 1 ∧ x.2 ≤ p + 3) (fun x => aPrg x.1) (fun x => [(0,some (cRd bs x.2))]):=by
 have hlen := cntL_len q.body
 have h0 := pickF_bd bs p (q.body.length : Int)
 refine mc_start Tryz.func54 Tryz.ntmps54 ?_
 repeat' (first|(apply id_rw;(first|(apply rx_pick;rfl;rfl;(rfl);(apply pick_c <;> (first|assumption|omega));rfl;rfl)|(apply rx_numO;rfl;rfl;rfl;rfl;infer_instance;rfl;(rfl);assumption;omega;(decide);(decide);rfl;rfl)|(apply rx_copyOf;rfl;(apply copyOf_c <;> (omega));rfl;rfl)))|refine stpb ?_|(refine stp2 ?_ ?_ <;> intro hc hq <;> try (exfalso;omega))|refine stpd ?_|fail)
 ·refine rq_le (Le.frzC (j := 2) (i := 6) [] rfl rfl (by decide)) ?_
  refine rq_le (Le.frzC (j := 2) (i := 7) [.imm _ _] rfl rfl (by decide)) ?_
  refine rq_ret rfl ?_
  refine mc_ret ((⟨q.types,q.body⟩ : Prg),p) ?_ ?_ ⟨sE ?_,trivial⟩
  ·exact ⟨by dsimp only;omega,by dsimp only;omega,by dsimp only;omega⟩
  ·rfl
  ·rfl
 ·refine rq_le (Le.frzC (j := 2) (i := 6) [] rfl rfl (by decide)) ?_
  refine rq_le (Le.frzC (j := 2) (i := 7) [.imm _ _] rfl rfl (by decide)) ?_
  refine rq_ret rfl ?_
  refine mc_ret ((⟨q.types,q.body.set (pickF bs p (q.body.length : Int)).toNat (uOp q.body[(pickF bs p (q.body.length : Int)).toNat]! (numF bs (p + 1 + 1) [0,11,1,3,8]))⟩ : Prg),p + 1 + 1 + 1) ?_ ?_ ⟨sE ?_,trivial⟩
  ·refine ⟨?_,by dsimp only;omega,by dsimp only;omega⟩; dsimp only;rw [cntL_set q.body (pickF bs p (q.body.length : Int)).toNat _ (by omega) (by rw [cntS_uOp])]; omega
  ·show _ = AV.agg [_,AV.imm (List.length (q.body.set _ _)) _]; rw [List.length_set]; rfl
  ·rfl
 ·refine rq_le (Le.frzC (j := 2) (i := 6) [] rfl rfl (by decide)) ?_
  refine rq_le (Le.frzC (j := 2) (i := 7) [.imm _ _] rfl rfl (by decide)) ?_
  refine rq_ret rfl ?_
  refine mc_ret ((⟨q.types,q.body.set (pickF bs p (q.body.length : Int)).toNat (uX q.body[(pickF bs p (q.body.length : Int)).toNat]! (numF bs (p + 1 + 1) [6,-1,0,1]))⟩ : Prg),p + 1 + 1 + 1) ?_ ?_ ⟨sE ?_,trivial⟩
  ·refine ⟨?_,by dsimp only;omega,by dsimp only;omega⟩; dsimp only;rw [cntL_set q.body (pickF bs p (q.body.length : Int)).toNat _ (by omega) (by rw [cntS_uX])]; omega
  ·show _ = AV.agg [_,AV.imm (List.length (q.body.set _ _)) _]; rw [List.length_set]; rfl
  ·rfl
 ·refine rq_le (Le.frzC (j := 2) (i := 6) [] rfl rfl (by decide)) ?_
  refine rq_le (Le.frzC (j := 2) (i := 7) [.imm _ _] rfl rfl (by decide)) ?_
  refine rq_ret rfl ?_
  refine mc_ret ((⟨q.types,q.body.set (pickF bs p (q.body.length : Int)).toNat (uY q.body[(pickF bs p (q.body.length : Int)).toNat]! (numF bs (p + 1 + 1) [6,-1,0,1]))⟩ : Prg),p + 1 + 1 + 1) ?_ ?_ ⟨sE ?_,trivial⟩
  ·refine ⟨?_,by dsimp only;omega,by dsimp only;omega⟩; dsimp only;rw [cntL_set q.body (pickF bs p (q.body.length : Int)).toNat _ (by omega) (by rw [cntS_uY])]; omega
  ·show _ = AV.agg [_,AV.imm (List.length (q.body.set _ _)) _]; rw [List.length_set]; rfl
  ·rfl
 ·refine rq_le (Le.frzC (j := 2) (i := 6) [] rfl rfl (by decide)) ?_
  refine rq_le (Le.frzC (j := 2) (i := 7) [.imm _ _] rfl rfl (by decide)) ?_
  refine rq_ret rfl ?_
  refine mc_ret ((⟨q.types,q.body.set (pickF bs p (q.body.length : Int)).toNat (uN q.body[(pickF bs p (q.body.length : Int)).toNat]! (numF bs (p + 1 + 1) [10,-1,5]))⟩ : Prg),p + 1 + 1 + 1) ?_ ?_ ⟨sE ?_,trivial⟩
  ·refine ⟨?_,by dsimp only;omega,by dsimp only;omega⟩; dsimp only;rw [cntL_set q.body (pickF bs p (q.body.length : Int)).toNat _ (by omega) (by rw [cntS_uN])]; omega
  ·show _ = AV.agg [_,AV.imm (List.length (q.body.set _ _)) _]; rw [List.length_set]; rfl
  ·rfl
 ·refine rq_le (Le.frzC (j := 2) (i := 11) [] rfl rfl (by decide)) ?_
  refine rq_le (Le.frzC (j := 2) (i := 7) [.imm _ _] rfl rfl (by decide)) ?_
  refine rq_ret rfl ?_
  refine mc_ret ((⟨q.types ++ [numF bs (p + 1 + 1) [1,5,0,4]],q.body⟩ : Prg),p + 1 + 1 + 1) ?_ ?_ ⟨sE ?_,trivial⟩
  ·exact ⟨by dsimp only;omega,by simp,by dsimp only;omega⟩
  ·show _ = AV.agg [AV.imm (List.length (q.types ++ [_])) _,_]; rw [List.length_append]; rfl
  ·rfl
 ·refine aw_loopA (σ := Nat × List AL.Stmt × Nat) [4, 5] [6, 2, 0] (fun k => [(7, iv (k.1 : Int))]) (fun k => [(7, some (flat cStmt k.2.1)), (8, some [.own 6 0 q.types.length 1, .own 7 0 k.2.2 6])]) (fun k => k.1 ≤ 31 ∧ k.2.1 = q.body ++ List.replicate k.1 q.body[0]! ∧ k.2.2 = k.2.1.length) (fun k => 31 - k.1) (0, q.body, q.body.length) ⟨by omega, by simp, rfl⟩ ?_
  rintro ⟨k,xs,m⟩ ⟨hk,hxs,hm⟩
  dsimp only at hk hxs hm ⊢
  have hln : 0 < xs.length := by rw [hxs,List.length_append]; omega
  have hl2 : xs.length = q.body.length + k := by rw [hxs,List.length_append,List.length_replicate]
  repeat' (first|refine stpb ?_|(refine stp2 ?_ ?_ <;> intro hc hq <;> try (exfalso;omega))|refine stpd ?_|fail)
  ·(refine ex3 (k + 1, _, _) (Le.renA [(7, 10), (8, 8), (6, 6), (2, 2)]) ?_ ?_)
   ·dsimp only
    refine ⟨by omega,?_,by simp [hm]⟩
    have e0 : xs[Int.toNat 0]! = q.body[0]! := by
     show xs[0]! = _
     rw [hxs,getElem!_pos _ _ (by rw [List.length_append]; omega),List.getElem_append_left (by omega),getElem!_pos _ _ (by omega)]
    rw [e0,hxs,List.replicate_succ',List.append_assoc]
   ·dsimp only;omega
  ·have hc0 : cntS q.body[0]! ≤ cntL q.body := cntL_at q.body 0 (by omega)
   have hc1 : cntL xs = cntL q.body + k * cntS q.body[0]! := by rw [hxs,cntL_append,cntL_rep]
   have hc2 : k * cntS q.body[0]! ≤ 31 * cntL q.body := Nat.mul_le_mul hk hc0
   subst hm
   refine rq_le (Le.frzC (j := 2) (i := 6) [] rfl rfl (by decide)) ?_
   refine rq_le (Le.frzC (j := 2) (i := 7) [.imm _ _] rfl rfl (by decide)) ?_
   refine rq_ret rfl ?_
   refine mc_ret ((⟨q.types,xs⟩ : Prg),p + 1 + 1) ?_ ?_ ⟨sE ?_,trivial⟩
   ·exact ⟨by dsimp only;omega,by dsimp only;omega,by dsimp only;omega⟩
   ·rfl
   ·rfl
 ·have hK : (pickF bs p (q.body.length : Int) + 1).toNat = (pickF bs p (q.body.length : Int)).toNat + 1 := by omega
  repeat' (first|(apply id_rw;first|(apply rx_sliceOh;rfl;exact bnd_pos rfl (by omega);omega;rfl)|(apply rx_sliceOw;rfl;exact bnd_pos rfl (by omega);omega;rfl)|(apply rx_append;rfl;rfl;rfl;rfl;rfl;(rw [flat_length]; omega);exact sC_ownD rfl (by omega);omega;omega;exact app_del (by omega);rfl;rfl))|refine stpb ?_|fail)
  refine rq_le (Le.frzC (j := 2) (i := 6) [] rfl rfl (by decide)) ?_
  refine rq_le (Le.frzC (j := 2) (i := 9) [.imm _ _] rfl rfl (by decide)) ?_
  refine rq_ret rfl ?_
  refine mc_ret ((⟨q.types,q.body.take (pickF bs p (q.body.length : Int)).toNat ++ q.body.drop (pickF bs p (q.body.length : Int) + 1).toNat⟩ : Prg),p + 1 + 1) ?_ ?_ ⟨sE ?_,trivial⟩
  ·refine ⟨?_, by dsimp only; omega, by dsimp only; omega⟩
   dsimp only
   rw [hK]
   have := cntL_del q.body (pickF bs p (q.body.length : Int)).toNat
   omega
  ·show AV.agg [_, AV.imm _ _] = AV.agg [_, AV.imm (List.length (_ ++ _)) _]
   rw [List.length_append,List.length_take,List.length_drop,Nat.min_eq_left (by omega)]
  ·rfl
 ·refine rq_le (Le.frzC (j := 2) (i := 6) [] rfl rfl (by decide)) ?_
  refine rq_le (Le.frzC (j := 2) (i := 7) [.imm _ _] rfl rfl (by decide)) ?_
  refine rq_ret rfl ?_
  refine mc_ret (q,p + 1 + 1) ⟨by dsimp only;omega,by dsimp only;omega,by dsimp only;omega⟩ rfl ⟨sE ?_,trivial⟩
  ·rfl
def atF (s : ByteArray) (i : Int) (w : ByteArray) : Bool := decide (0 ≤ i) && (decide (i + w.size ≤ s.size) && ((s.extract i.toNat (i + w.size).toNat).toList == w.toList))
def chrF (lo hi : Int) (s : ByteArray) (i : Int) : Int := if i < 0 then -1 else if (s.size : Int) ≤ i then -1 else if ((s[i.toNat]!).toNat : Int) < lo then -1 else if hi < ((s[i.toNat]!).toNat : Int) then -1 else ((s[i.toNat]!).toNat : Int) - lo
theorem l1At_c (s:ByteArray) (i:Int) (w:ByteArray) (hs:s.size ≤ 1048576) (hw:w.size ≤ 1048576) (hi:i ≤ 1048576):PC Tryz.prog 210 [sv s,iv i,sv w] (fun r => r = bv (atF s i w)):=by
 refine pc_start Tryz.func210 Tryz.ntmps210 ?_
 repeat' (first|(apply id_rw;first|(apply rx_sbin;rfl;rfl;(rfl);rfl)|(apply rx_sliceS;rfl;exact bnd_pos rfl (by omega);exact bnd_pos rfl (by omega);omega;rfl))|refine stpb ?_|(refine stp3 ?_ ?_ <;> intro hg hq <;> try (exfalso;omega))|refine stpr ?_|fail)
 all_goals (refine ⟨?_,rfl⟩; simp only [oneOf,AV.v.injEq,Value.bool.injEq,Value.int.injEq,true_and])
 ·unfold atF
  rw [decide_eq_true (by omega),decide_eq_true (by omega)]; rfl
 ·unfold atF
  rw [decide_eq_true (p := 0 ≤ i) (by omega),decide_eq_false (by omega)]; rfl
 ·unfold atF
  rw [decide_eq_false (by omega)]; rfl
theorem l1Var_c (s:ByteArray) (i:Int) (hs:s.size ≤ 1048576):PC Tryz.prog 266 [sv s,iv i] (fun r => r = iv (chrF 97 122 s i)):=by
 have hb0 : ((s[i.toNat]!).toNat : Int) ≤ 255 := by have := (s[i.toNat]!).toNat_lt;omega
 refine pc_start Tryz.func266 Tryz.ntmps266 ?_
 repeat' (first|(apply id_rw;first|(apply rx_indexS;rfl;rfl;omega;rfl)|(apply rx_subU;rfl;rfl;omega;rfl))|refine stpb ?_|(refine stp2 ?_ ?_ <;> intro hc hq <;> try (exfalso;omega))|(refine stp3 ?_ ?_ <;> intro hg hq <;> try (exfalso;omega))|refine stpr ?_|fail)
 all_goals (refine ⟨?_,rfl⟩; simp only [oneOf,AV.v.injEq,Value.bool.injEq,Value.int.injEq,true_and])
 all_goals (unfold chrF;repeat' split)
 all_goals (first|rfl|omega)
theorem l1Digit_c (s:ByteArray) (i:Int) (hs:s.size ≤ 1048576):PC Tryz.prog 268 [sv s,iv i] (fun r => r = iv (chrF 48 57 s i)):=by
 have hb0 : ((s[i.toNat]!).toNat : Int) ≤ 255 := by have := (s[i.toNat]!).toNat_lt;omega
 refine pc_start Tryz.func268 Tryz.ntmps268 ?_
 repeat' (first|(apply id_rw;first|(apply rx_indexS;rfl;rfl;omega;rfl)|(apply rx_subU;rfl;rfl;omega;rfl))|refine stpb ?_|(refine stp2 ?_ ?_ <;> intro hc hq <;> try (exfalso;omega))|(refine stp3 ?_ ?_ <;> intro hg hq <;> try (exfalso;omega))|refine stpr ?_|fail)
 all_goals (refine ⟨?_,rfl⟩; simp only [oneOf,AV.v.injEq,Value.bool.injEq,Value.int.injEq,true_and])
 all_goals (unfold chrF;repeat' split)
 all_goals (first|rfl|omega)
def QP (s : ByteArray) (i : Int) (r : AV) : Prop := ∃ (x : AL.Stmt) (nx : Int),r = .tup [aStmt x,iv nx] ∧ ((nx = -1 ∧ (cntS x : Int) ≤ s.size + 1) ∨ (i < nx ∧ nx ≤ s.size + 3 ∧ (cntS x : Int) ≤ nx - i))
def QB (s : ByteArray) (i : Int) (r : AV) : Prop := ∃ (l : List AL.Stmt) (nx : Int),r = .tup [sl cStmt l,iv nx] ∧ ((nx = -1 ∧ l = []) ∨ (0 ≤ i ∧ i + 2 ≤ nx ∧ nx ≤ s.size ∧ (cntL l : Int) ≤ nx - i))
def QL (s : ByteArray) (i : Int) (r : AV) : Prop := ∃ (l : List AL.Stmt) (nx : Int),r = .tup [sl cStmt l,iv nx] ∧ ((nx = -1 ∧ l = []) ∨ (i ≤ nx ∧ nx ≤ s.size ∧ (cntL l : Int) ≤ nx - i))
theorem atF_bd {s w:ByteArray}{i:Int}(h:atF s i w = true):0 ≤ i ∧ i + w.size ≤ s.size:=by
 unfold atF at h;simp only [Bool.and_eq_true,decide_eq_true_eq] at h;exact ⟨h.1,h.2.1⟩
theorem qp0 {s:ByteArray}{i op x y n nx:Int}(h:nx = -1 ∨ (i < nx ∧ nx ≤ s.size + 3)):QP s i (.tup [.agg [iv op,iv x,iv y,iv n,.imm 0 [],.imm 0 []],iv nx]) :=
 ⟨.mk op x y n [] [],nx,rfl,by simp only [cntS,cntL]; omega⟩
theorem qp1 {s:ByteArray}{i op x y n nx:Int}{th:List AL.Stmt}(h:(nx = -1 ∧ (cntL th:Int) ≤ s.size) ∨ (i < nx ∧ nx ≤ s.size + 3 ∧ (cntL th:Int) + 1 ≤ nx - i)):QP s i (.tup [.agg [iv op,iv x,iv y,iv n,sl cStmt th,.imm 0 []],iv nx]) :=
 ⟨.mk op x y n th [],nx,rfl,by simp only [cntS,cntL]; omega⟩
theorem qp2 {s:ByteArray}{i op x y n nx:Int}{th el:List AL.Stmt}(h:(nx = -1 ∧ (cntL th:Int) + cntL el ≤ s.size) ∨ (i < nx ∧ nx ≤ s.size + 3 ∧ (cntL th:Int) + cntL el + 1 ≤ nx - i)):QP s i (.tup [.agg [iv op,iv x,iv y,iv n,sl cStmt th,sl cStmt el],iv nx]) :=
 ⟨.mk op x y n th el,nx,rfl,by simp only [cntS]; omega⟩
theorem QP.pur {s:ByteArray}{i:Int}{r:AV}(h:QP s i r):r.pur = true := by obtain ⟨x,nx,rfl,_⟩ := h;exact Pur.pf
theorem QB.pur {s:ByteArray}{i:Int}{r:AV}(h:QB s i r):r.pur = true := by obtain ⟨x,nx,rfl,_⟩ := h;exact Pur.pf
theorem QL.pur {s:ByteArray}{i:Int}{r:AV}(h:QL s i r):r.pur = true := by obtain ⟨x,nx,rfl,_⟩ := h;exact Pur.pf
theorem rq_q {P:Program}{s:AS}{res:Array ResultVar}{q:AV → Prop}{l:List AV}(hQ:∀ r,q r → r.pur = true) (hr:resL P (lk s.ts) (lkH s.hs) res.toList = some l) (h:q (oneOf l)):retQ P res (fun r _ => q r ∧ r.pur = true) .ret s := rq_ret hr ⟨h,hQ _ h⟩
theorem parse_c0 (s:ByteArray) (i dp:Int) (hs:s.size ≤ 100000) (hi0:0 ≤ i) (hi:i ≤ s.size) (hd0:0 ≤ dp) (hd:dp ≤ 10) (braces_ih:∀ j dj:Int,dj = dp - 1 → -1 ≤ j → j ≤ s.size + 10 → PC Tryz.prog 267 [sv s,iv j,iv dj] (QB s j)):PC Tryz.prog 211 [sv s,iv i,iv dp] (QP s i):=by
 have h1 : atF s i ⟨#[100,114,111,112,32]⟩ = true → i + 5 ≤ s.size := fun h => (atF_bd h).2
 have h2 : atF s i ⟨#[108,111,111,112,123]⟩ = true → i + 5 ≤ s.size := fun h => (atF_bd h).2
 have h3 : atF s i ⟨#[105,102,123]⟩ = true → i + 3 ≤ s.size := fun h => (atF_bd h).2
 have h4 : atF s i ⟨#[42]⟩ = true → i + 1 ≤ s.size := fun h => (atF_bd h).2
 have h5 : atF s (i + 1) ⟨#[61]⟩ = true → i + 1 + 1 ≤ s.size := fun h => (atF_bd h).2
 have h6 : atF s (i + 2) ⟨#[98,111,120,32]⟩ = true → i + 2 + 4 ≤ s.size := fun h => (atF_bd h).2
 have h7 : atF s (i + 2) ⟨#[38,109,117,116,32]⟩ = true → i + 2 + 5 ≤ s.size := fun h => (atF_bd h).2
 refine pc_start Tryz.func211 Tryz.ntmps211 ?_
 repeat' (first|(apply id_rw;(first|(apply rx_callE (k := 210);rfl;(apply l1At_c <;> (first|omega|decide));(rfl);rfl)|(apply rx_callE (k := 266);rfl;(apply l1Var_c <;> (omega));(rfl);rfl)|(apply rx_call (k := 267);rfl;(apply braces_ih <;> (omega));(rfl);rfl;(rintro _ ⟨l,nx,rfl,hql⟩ _))|(apply rx_callE (k := 268);rfl;(apply l1Digit_c <;> (omega));(rfl);rfl)))|refine stpb ?_|(refine stp2 ?_ ?_ <;> intro hc hq <;> try (exfalso;omega))|(refine stp3 ?_ ?_ <;> intro hg hq <;> try (exfalso;omega))|fail)
 all_goals refine rq_q (fun _ => QP.pur) (l := [.agg [_,_,_,_,_,_],_]) rfl ?_
 all_goals (try have b1 := h1 (by assumption))
 all_goals (try have b2 := h2 (by assumption))
 all_goals (try have b3 := h3 (by assumption))
 all_goals (try have b4 := h4 (by assumption))
 all_goals (try have b5 := h5 (by assumption))
 all_goals (try have b6 := h6 (by assumption))
 all_goals (try have b7 := h7 (by assumption))
 all_goals clear h1 h2 h3 h4 h5 h6 h7
 all_goals first
  | (refine qp0 ?_; omega)
  | skip
 ·refine qp1 (th := l) ?_
  rcases hql with ⟨h8,h9⟩|hql
  ·rw [h9]; simp only [cntL]; omega
  ·omega
 ·rename_i l1 nx1 hql1 hpu1 hpu2
  refine qp2 (th := l1) (el := l) ?_
  rcases hql1 with ⟨h8,h9⟩|hql1 <;> rcases hql with ⟨h10,h11⟩|hql
  ·rw [h9,h11]; simp only [cntL]; omega
  ·omega
  ·rw [h11]; simp only [cntL]; omega
  ·omega
theorem braces_c0 (s:ByteArray) (i dp:Int) (hs:s.size ≤ 100000) (hi0:-1 ≤ i) (hi:i ≤ s.size + 10) (hd0:-1 ≤ dp) (hd:dp ≤ 10) (list_ih:∀ j dj:Int,0 ≤ dp → dj = dp → 0 ≤ j → j ≤ s.size → PC Tryz.prog 145 [sv s,iv j,iv dj] (QL s j)):PC Tryz.prog 267 [sv s,iv i,iv dp] (QB s i):=by
 have h1 : atF s i ⟨#[123]⟩ = true → 0 ≤ i ∧ i + 1 ≤ s.size := fun h => atF_bd h
 refine pc_start Tryz.func267 Tryz.ntmps267 ?_
 repeat' (first|(apply id_rw;(apply rx_callE (k := 210);rfl;(apply l1At_c <;> (first|omega|decide));(rfl);rfl))|refine stpb ?_|(refine stp2 ?_ ?_ <;> intro hc hq <;> try (exfalso;omega))|(refine stp3 ?_ ?_ <;> intro hg hq <;> try (exfalso;omega))|fail)
 ·refine rq_le (Le.nilImm (d := 6) rfl) ?_
  exact rq_q (fun _ => QB.pur) (l := [.imm 0 [],iv (-1)]) rfl ⟨[],-1,rfl,.inl ⟨rfl,rfl⟩⟩
 ·have b1 := h1 (by assumption)
  repeat' (first|(apply id_rw;(first|(apply rx_call (k := 145);rfl;(apply list_ih <;> (first|assumption|omega));(rfl);rfl;(rintro _ ⟨l,nx,rfl,hql⟩ _))|(apply rx_callE (k := 210);rfl;(apply l1At_c <;> (first|omega|decide));(rfl);rfl)))|refine stpb ?_|(refine stp2 ?_ ?_ <;> intro hc hq <;> try (exfalso;omega))|fail)
  ·refine rq_le (Le.nilImm (d := 6) rfl) ?_
   exact rq_q (fun _ => QB.pur) (l := [.imm 0 [],iv (-1)]) rfl ⟨[],-1,rfl,.inl ⟨rfl,rfl⟩⟩
  ·have b2 : 0 ≤ nx ∧ nx + 1 ≤ s.size := atF_bd (w := ⟨#[125]⟩) (by assumption)
   exact rq_q (fun _ => QB.pur) (l := [sl cStmt l,iv (nx + 1)]) rfl ⟨l,nx + 1,rfl,by omega⟩
 ·refine rq_le (Le.nilImm (d := 6) rfl) ?_
  exact rq_q (fun _ => QB.pur) (l := [.imm 0 [],iv (-1)]) rfl ⟨[],-1,rfl,.inl ⟨rfl,rfl⟩⟩
theorem list_c0 (s:ByteArray) (i dp:Int) (hs:s.size ≤ 100000) (hi0:0 ≤ i) (hi:i ≤ s.size) (hd0:0 ≤ dp) (hd:dp ≤ 10) (parse_ih:∀ j dj:Int,dj = dp → 0 ≤ j → j ≤ s.size → PC Tryz.prog 211 [sv s,iv j,iv dj] (QP s j)):PC Tryz.prog 145 [sv s,iv i,iv dp] (QL s i):=by
 refine pc_start Tryz.func145 Tryz.ntmps145 ?_
 repeat' (first|(apply id_rw;(apply rx_callE (k := 210);rfl;(apply l1At_c <;> (first|omega|decide));(rfl);rfl))|refine stpb ?_|(refine stp2 ?_ ?_ <;> intro hc hq <;> try (exfalso;omega))|(refine stp3 ?_ ?_ <;> intro hg hq <;> try (exfalso;omega))|fail)
 rotate_left 1
 ·refine aw_loopA (σ := Int × List AL.Stmt × Nat) [0, 2] [] (fun k => [(1, iv k.1), (8, .own 0 0 k.2.2 6)]) (fun k => [(0, some (flat cStmt k.2.1))]) (fun k => i ≤ k.1 ∧ k.1 ≤ s.size ∧ k.2.2 = k.2.1.length ∧ (cntL k.2.1 : Int) ≤ k.1 - i) (fun k => (s.size - k.1).toNat) (i, [], 0) ⟨by omega, by omega, rfl, by simp [cntL]⟩ ?_
  rintro ⟨k,xs,m⟩ ⟨hk0,hk,hm,hc⟩
  dsimp only at hk0 hk hm hc ⊢
  have hln := cntL_len xs
  repeat' (first|(apply id_rw;first|(apply rx_buildSliceI (t := _);rfl;rfl;rfl;(exact (rfl:_=some [_,_,_,_,_,_]));rfl;rfl)|(first|(apply rx_callE (k := 210);rfl;(apply l1At_c <;> (first|omega|decide));(rfl);rfl)|(apply rx_call (k := 211);rfl;(apply parse_ih <;> (first|assumption|omega));(rfl);rfl;(rintro _ ⟨x,nx,rfl,hqx⟩ _))))|refine stpb ?_|(refine stp2 ?_ ?_ <;> intro hc hq <;> try (exfalso;omega))|(refine stp3 ?_ ?_ <;> intro hg hq <;> try (exfalso;omega))|fail)
  ·refine rq_le (Le.nilImm (d := 6) rfl) ?_
   exact rq_q (fun _ => QL.pur) (l := [.imm 0 [],iv (-1)]) rfl ⟨[],-1,rfl,.inl ⟨rfl,rfl⟩⟩
  ·refine rq_le (Le.frzD (d := 6) (i := 3) rfl rfl) ?_
   refine rq_q (fun _ => QL.pur) (l := [.imm (m + 1) (flat cStmt (xs ++ [x])),iv nx]) rfl ⟨xs ++ [x],nx,?_,?_⟩
   ·show AV.tup [AV.imm (m + 1) _, _] = AV.tup [AV.imm (List.length (xs ++ [x])) _, _]
    rw [List.length_append,hm]; rfl
   ·rw [cntL_append]; simp only [cntL]; omega
  ·have b2 : 0 ≤ nx ∧ nx + 1 ≤ s.size := atF_bd (w := ⟨#[59]⟩) (by assumption)
   (refine ex3 (nx + 1,xs ++ [x],m + 1) (Le.renA [(0,3)]) ?_ ?_)
   ·dsimp only
    refine ⟨by omega,by omega,by simp [hm],?_⟩
    rw [cntL_append]; simp only [cntL]; omega
   ·dsimp only;omega
  ·refine rq_le (Le.nilImm (d := 6) rfl) ?_
   exact rq_q (fun _ => QL.pur) (l := [.imm 0 [],iv (-1)]) rfl ⟨[],-1,rfl,.inl ⟨rfl,rfl⟩⟩
 ·refine rq_le (Le.frzD (d := 6) (i := 0) rfl rfl) ?_
  exact rq_q (fun _ => QL.pur) (l := [.imm 0 [],iv i]) rfl ⟨[],i,rfl,by simp only [cntL]; omega⟩
 ·refine rq_le (Le.frzD (d := 6) (i := 0) rfl rfl) ?_
  exact rq_q (fun _ => QL.pur) (l := [.imm 0 [],iv i]) rfl ⟨[],i,rfl,by simp only [cntL]; omega⟩
theorem list_all (s:ByteArray) (hs:s.size ≤ 100000):∀ n:Nat,n ≤ 10 → (∀ j:Int,-1 ≤ j → j ≤ s.size + 10 → PC Tryz.prog 267 [sv s,iv j,iv ((n:Int) - 1)] (QB s j)) ∧ (∀ j:Int,0 ≤ j → j ≤ s.size → PC Tryz.prog 145 [sv s,iv j,iv (n:Int)] (QL s j))
 | 0, hn => by
  have hB : ∀ j : Int, -1 ≤ j → j ≤ s.size + 10 → PC Tryz.prog 267 [sv s, iv j, iv (((0 : Nat) : Int) - 1)] (QB s j) :=
   fun j h0 h1 => braces_c0 s j (((0 : Nat) : Int) - 1) hs h0 h1 (by omega) (by omega) (fun _ _ h => by omega)
  have hP : ∀ j : Int, 0 ≤ j → j ≤ s.size → PC Tryz.prog 211 [sv s, iv j, iv ((0 : Nat) : Int)] (QP s j) :=
   fun j h0 h1 => parse_c0 s j _ hs h0 h1 (by omega) (by omega) (fun k dj h2 h3 h4 => by subst h2;exact hB k h3 h4)
  exact ⟨hB,fun j h0 h1 => list_c0 s j _ hs h0 h1 (by omega) (by omega) (fun k dj h2 h3 h4 => by subst h2;exact hP k h3 h4)⟩
 | n + 1, hn => by
  have ih := list_all s hs n (by omega)
  have e : (((n + 1 : Nat) : Int) - 1) = (n : Int) := by omega
  have hB : ∀ j : Int, -1 ≤ j → j ≤ s.size + 10 → PC Tryz.prog 267 [sv s, iv j, iv (((n + 1 : Nat) : Int) - 1)] (QB s j) :=
   fun j h0 h1 => braces_c0 s j _ hs h0 h1 (by omega) (by omega) (fun k dj h2 h3 h4 h5 => by rw [e] at h3;subst h3;exact ih.2 k h4 h5)
  have hP : ∀ j : Int, 0 ≤ j → j ≤ s.size → PC Tryz.prog 211 [sv s, iv j, iv ((n + 1 : Nat) : Int)] (QP s j) :=
   fun j h0 h1 => parse_c0 s j _ hs h0 h1 (by omega) (by omega) (fun k dj h2 h3 h4 => by subst h2;exact hB k h3 h4)
  exact ⟨hB,fun j h0 h1 => list_c0 s j _ hs h0 h1 (by omega) (by omega) (fun k dj h2 h3 h4 => by subst h2;exact hP k h3 h4)⟩
theorem list4_c (s:ByteArray) (i:Int) (hs:s.size ≤ 100000) (hi0:0 ≤ i) (hi:i ≤ s.size):PC Tryz.prog 145 [sv s,iv i,iv 4] (QL s i) := (list_all s hs 4 (by omega)).2 i hi0 hi
theorem l1Letter_c (v:Int) (h0:0 ≤ v) (h1:v ≤ 25):PC Tryz.prog 206 [iv v] (fun r => r = sv (letF v)):=by
 refine pc_start Tryz.func206 Tryz.ntmps206 ?_
 repeat' (first|(apply id_rw;first|(apply rx_addU;rfl;rfl;omega;rfl)|(apply rx_b2s (ns := [_]);rfl;rfl;rfl)|(apply rx_convU;rfl;omega;rfl))|refine stpb ?_|refine stpr ?_|fail)
 exact ⟨rfl,rfl⟩
theorem l17Dec_c (n:Int) (h0:0 ≤ n) (h1:n ≤ 9):PC Tryz.prog 207 [iv n] (fun r => r = sv (decF n)):=by
 refine pc_start Tryz.func207 Tryz.ntmps207 ?_
 repeat' (first|refine stpb ?_|(refine stp2 ?_ ?_ <;> intro hc hq <;> try (exfalso;omega))|fail)
 refine aw_loopA (σ := Unit) [0,3] [] (fun u => []) (fun u => []) (fun u => True) (fun u => 0) () trivial ?_
 rintro u _
 repeat' (first|(apply id_rw;first|(apply rx_sbin;rfl;rfl;(rfl);rfl)|(apply rx_b2s (ns := [_]);rfl;rfl;rfl)|(apply rx_convU;rfl;omega;rfl))|refine stpb ?_|(refine stp2 ?_ ?_ <;> intro hc hq <;> try (exfalso;omega))|refine stpr ?_|fail)
 exact ⟨rfl,rfl⟩
theorem text_c0 (s:AL.Stmt) (hc:cntS s ≤ 10000) (hop:(s.op = 9 ∨ s.op = 10) ∨ (1 ≤ s.op ∧ s.op ≤ 8 ∧ 0 ≤ s.x ∧ s.x ≤ 5 ∧ 0 ≤ s.y ∧ s.y ≤ 5 ∧ (s.op = 1 ∨ s.op = 2 → 0 ≤ s.n ∧ s.n ≤ 9)))
  (hth : s.op = 9 ∨ s.op = 10 → PC Tryz.prog 92 [sl cStmt s.th] (fun r => r = sv (textL s.th))) (hel : s.op = 9 → PC Tryz.prog 92 [sl cStmt s.el] (fun r => r = sv (textL s.el))) : PC Tryz.prog 141 [aStmt s] (fun r => r = sv (textS s)) := by
 have k1 := textL_size s.th
 have k2 := textL_size s.el
 have k3 := cntS_def s
 refine pc_start Tryz.func141 Tryz.ntmps141 ?_
 repeat' (first|(apply id_rw;first|(apply rx_sbin;rfl;rfl;(first|rfl|exact sadd_ok (by (simp only [ByteArray.size_append,bsz_lit,List.length_cons,List.length_nil,letF_size,decF_size,bytF_size] <;> omega)));rfl)|(first|(apply rx_callE (k := 92);rfl;(first|(apply hth;omega)|(apply hel;omega));exact Pur.pf;rfl)|(apply rx_callE (k := 206);rfl;(apply l1Letter_c <;> (omega));(rfl);rfl)|(apply rx_callE (k := 207);rfl;(apply l17Dec_c <;> (omega));(rfl);rfl)))|refine stpb ?_|(refine stp2 ?_ ?_ <;> intro hc hq <;> try (exfalso;omega))|refine stpd ?_|refine stpr ?_|fail)
 all_goals (refine ⟨?_,rfl⟩; rw [textS_def]; repeat' split)
 all_goals (first|rfl|omega)
theorem textL_c0 (l:List AL.Stmt) (hc:cntL l ≤ 10000) (text_ih:∀ k,k < l.length → PC Tryz.prog 141 [aStmt l[k]!] (fun r => r = sv (textS l[k]!))):PC Tryz.prog 92 [sl cStmt l] (fun r => r = sv (textL l)):=by
 have hlen := cntL_len l
 refine pc_start Tryz.func92 Tryz.ntmps92 ?_
 repeat' (first|refine stpb ?_|fail)
 refine aw_loopA (σ := Nat × ByteArray) [0] [] (fun k => [(4,iv (k.1 : Int)),(3,sv k.2)]) (fun k => []) (fun k => k.1 ≤ l.length ∧ k.2 = textL (l.take k.1)) (fun k => l.length - k.1) (0,⟨#[]⟩) ⟨by omega,rfl⟩ ?_
 rintro ⟨k,t⟩ ⟨hk,ht⟩
 dsimp only at hk ht ⊢
 have k1 := textL_size (l.take k)
 have k2 := textS_size l[k]!
 have hck := cntL_at l k
 have hct : cntL (l.take k) ≤ cntL l := by have := cntL_append (l.take k) (l.drop k);rw [List.take_append_drop] at this;omega
 have k3 : t.size = (textL (l.take k)).size := by rw [ht]
 repeat' (first|(apply id_rw;first|(apply rx_sbin;rfl;rfl;(exact sadd_ok (by (first|omega|(simp only [ByteArray.size_append,bsz_lit,List.length_cons,List.length_nil,letF_size,decF_size,bytF_size] <;> omega))));rfl)|(apply rx_callE (k := 141);rfl;(apply text_ih <;> (omega));exact Pur.pf;rfl))|refine stpb ?_|(refine stp2 ?_ ?_ <;> intro hc hq <;> try (exfalso;omega))|refine stpr ?_|fail)
 ·(refine ex3 (k + 1, _) (Le.renA []) ?_ ?_)
  ·exact ⟨by dsimp only;omega,by dsimp only;rw [textL_succ l k (by omega),joinF,if_pos (by omega),ht]⟩
  ·dsimp only;omega
 ·(refine ex3 (k + 1, _) (Le.renA []) ?_ ?_)
  ·exact ⟨by dsimp only;omega,by dsimp only;rw [textL_succ l k (by omega),joinF,if_neg (by omega),ht]⟩
  ·dsimp only;omega
 ·have hke : k = l.length := by omega
  refine ⟨?_,rfl⟩
  rw [ht,hke,List.take_length]; rfl
theorem text_all (ts:List Int) (hts:typesOk ts = true):∀ m:Nat,m ≤ 10000 → ∀ l d,cntL l ≤ m → okL ts d l = true → PC Tryz.prog 92 [sl cStmt l] (fun r => r = sv (textL l)):=by
 intro m
 induction m with
 | zero =>
  intro hm l d hc ho
  have := cntL_len l
  exact textL_c0 l (by omega) (fun k hk => by omega)
 | succ m ih =>
  intro hm l d hc ho
  refine textL_c0 l (by omega) (fun k hk => ?_)
  have hck := cntL_at l k hk
  have hct := cnt_th l[k]!
  have hs : okS ts d l[k]! = true := by rw [okL_eq,all_iff] at ho;exact ho k hk
  rw [okS_def] at hs
  by_cases h9 : l[k]!.op ≠ 9 ∧ l[k]!.op ≠ 10
  ·rw [if_pos h9] at hs
   simp only [Bool.and_eq_true] at hs
   exact text_c0 _ (by omega) (.inr (simple_bd hts hs.2)) (fun h => by omega) (fun h => by omega)
  ·rw [if_neg h9] at hs
   cases d with
   | zero => cases hs
   | succ d =>
    simp only [Bool.and_eq_true] at hs
    exact text_c0 _ (by omega) (.inl (by omega)) (fun h => ih (by omega) _ d (by omega) hs.1.2) (fun h => ih (by omega) _ d (by omega) hs.2)
theorem l1List_c (ts:List Int) (d:Nat) (l:List AL.Stmt) (hts:typesOk ts = true) (hc:cntL l ≤ 10000) (ho:okL ts d l = true):PC Tryz.prog 92 [sl cStmt l] (fun r => r = sv (textL l)) := text_all ts hts _ hc l d (Nat.le_refl _) ho
def cStr (s : ByteArray) : List AV := [.v (.string s)]
instance : FlT cStr 1:=⟨fun _ => rfl⟩
instance : FE cStr (fun s => [.v (.string s)]):=⟨fun _ => rfl⟩
instance (s : ByteArray) : Pur (cStr s):=⟨rfl⟩
theorem Le.slotEq {ts:List (Nat × AV)}{hs:List (Nat × Option (List AV))}{n:Nat}{z0:Lo}{d:Nat}(v v':AV) (hd:lk ts d = some v) (h:v = v'):Le ⟨ts,hs,n,z0⟩ ⟨(d,v') :: ts,hs,n,z0⟩ :=
 Le.slot hd fun w bad ι y hr => h ▸ hr
def kinds : List ByteArray := [⟨#[]⟩,⟨#[105]⟩,⟨#[98]⟩,⟨#[114]⟩,⟨#[109]⟩]
theorem kinds_size (k:Nat):(kinds[k]!).size ≤ 1:=by
 match k with
 | 0 => decide
 | 1 => decide
 | 2 => decide
 | 3 => decide
 | 4 => decide
 | k + 5 => exact (show (default : ByteArray).size ≤ 1 from by decide)
theorem l1Program_c (p:Prg) (hv:validF p = true):PC Tryz.prog 51 [aPrg p] (fun r => ∃ t,r = sv t):=by
 have hv2 := hv
 simp only [validF,Bool.and_eq_true,decide_eq_true_eq] at hv2
 obtain ⟨⟨hts,hol⟩,hcn⟩ := hv2
 have hl6 := typesOk_len hts
 have htx := textL_size p.body
 refine pc_start Tryz.func51 Tryz.ntmps51 ?_
 repeat' (first|refine stpb ?_|fail)
 refine aw_loopA (σ := Nat × ByteArray) [1] [0] (fun k => [(4,iv (k.1 : Int)),(3,sv k.2)]) (fun k => []) (fun k => k.1 ≤ p.types.length ∧ k.2.size ≤ k.1) (fun k => p.types.length - k.1) (0,⟨#[]⟩) ⟨by omega,by show 0 ≤ 0;omega⟩ ?_
 rintro ⟨k,t⟩ ⟨hk,ht⟩
 dsimp only at hk ht ⊢
 have htk := typesOk_at hts k
 have hkz : (kinds[(p.types[k]!).toNat]!).size ≤ 1 := kinds_size _
 have hkl : kinds.length = 5 := rfl
 repeat' (first|(apply id_rw;first|(with_reducible apply rw_stop (d := 14))|(apply rx_callE (k := 92);rfl;exact l1List_c p.types 4 p.body hts (by omega) hol;exact Pur.pf;rfl)|(apply rx_sbin;rfl;rfl;(exact sadd_ok (by (simp only [ByteArray.size_append,bsz_lit,List.length_cons,List.length_nil,letF_size,decF_size,bytF_size] <;> omega)));rfl)|(apply rx_buildSliceI (t := _);rfl;rfl;rfl;(exact (rfl:_=some [_,_,_,_,_]));rfl;rfl))|refine stpb ?_|(refine stp2 ?_ ?_ <;> intro hc hq <;> try (exfalso;omega))|fail)
 ·refine rw_go (rw_le ?_ (Le.slotEq (d := 13) _ (.imm 5 (flat cStr kinds)) rfl rfl))
  repeat' (first|(apply id_rw;(apply rx_sbin;rfl;rfl;(exact sadd_ok (by (omega)));rfl))|refine stpb ?_|fail)
  (refine ex3 (k + 1,_) (Le.renA [(0,0)]) ?_ ?_)
  ·exact ⟨by dsimp only;omega,by dsimp only;rw [ByteArray.size_append]; omega⟩
  ·dsimp only;omega
 ·refine rq_ret rfl ⟨⟨_,rfl⟩,rfl⟩
theorem qprog0 {s:ByteArray}(b:Bool):(∃ (q:Prg) (b':Bool),AV.tup [AV.agg [.imm 0 [],.imm 0 []],bv b] = .tup [aPrg q,bv b'] ∧ cntL q.body ≤ s.size + 10 ∧ q.types.length ≤ s.size + 10) :=
 ⟨⟨[],[]⟩,b,rfl,by simp [cntL],by simp⟩
theorem parseProgram_c (s:ByteArray) (hs:s.size ≤ 10000):PC Tryz.prog 97 [sv s] (fun r => ∃ (q:Prg) (b:Bool),r = .tup [aPrg q,bv b] ∧ cntL q.body ≤ s.size + 10 ∧ q.types.length ≤ s.size + 10):=by
 refine pc_start Tryz.func97 Tryz.ntmps97 ?_
 repeat' (first|(apply id_rw;(with_reducible apply rw_stop (d := 13)))|refine stpb ?_|(refine stp2 ?_ ?_ <;> intro hc hq <;> try (exfalso;omega))|fail)
 ·exact rq_ret (l := [.agg [.imm 0 [],.imm 0 []],bv false]) rfl ⟨qprog0 false,rfl⟩
 refine rw_go ?_
 apply rx_build
 case hl => rfl
 case hf => exact (rfl:_=some [AV.v (.slice none 0 0),AV.v (.slice none 0 0)])
 case hN => rfl
 repeat' (first|refine stpb ?_|fail)
 apply AW.le
 case k => exact Le.nilCell (i := 1) 1 [] rfl (by decide) (by decide)
 refine aw_loopA (σ := Nat × List Int × Nat) [0,2,4] [0] (fun k => [(5,iv (k.1 : Int))]) (fun k => [(1,some [.own 2 0 k.2.2 1,.v (.slice none 0 0)]),(2,some (flat cI k.2.1))]) (fun k => k.1 ≤ s.size ∧ k.2.1.length = k.1 ∧ k.2.2 = k.2.1.length) (fun k => s.size - k.1) (0,[],0) ⟨by omega,rfl,rfl⟩ ?_
 rintro ⟨k,xs,m⟩ ⟨hk,hxl,hm⟩
 dsimp only at hk hxl hm ⊢
 repeat' (first|(apply id_rw;first|(with_reducible apply rw_stop (d := 43))|(apply rx_indexS;rfl;rfl;omega;rfl)|(apply rx_buildSliceI (t := _);rfl;rfl;rfl;exact (rfl:_=some [_]);rfl;rfl))|refine stpb ?_|(refine stp2 ?_ ?_ <;> intro hc hq <;> try (exfalso;omega))|(refine stp3 ?_ ?_ <;> intro hg hq <;> try (exfalso;omega))|fail)
 ·(refine ex3 (k + 1, xs ++ [1], m + 1) (Le.renA [(0, 0), (1, 1), (2, 4)]) ?_ ?_)
  ·exact ⟨by dsimp only;omega,by simp [hxl],by simp [hm]⟩
  ·dsimp only;omega
 ·(refine ex3 (k + 1, xs ++ [2], m + 1) (Le.renA [(0, 0), (1, 1), (2, 4)]) ?_ ?_)
  ·exact ⟨by dsimp only;omega,by simp [hxl],by simp [hm]⟩
  ·dsimp only;omega
 ·(refine ex3 (k + 1, xs ++ [3], m + 1) (Le.renA [(0, 0), (1, 1), (2, 4)]) ?_ ?_)
  ·exact ⟨by dsimp only;omega,by simp [hxl],by simp [hm]⟩
  ·dsimp only;omega
 ·(refine ex3 (k + 1, xs ++ [4], m + 1) (Le.renA [(0, 0), (1, 1), (2, 4)]) ?_ ?_)
  ·exact ⟨by dsimp only;omega,by simp [hxl],by simp [hm]⟩
  ·dsimp only;omega
 ·(refine ex3 (k + 1, xs ++ [0], m + 1) (Le.renA [(0, 0), (1, 1), (2, 4)]) ?_ ?_)
  ·exact ⟨by dsimp only;omega,by simp [hxl],by simp [hm]⟩
  ·dsimp only;omega
 all_goals subst hm
 all_goals (refine rw_go (rw_le ?_ (Le.frzC (j := 1) (i := 2) [] rfl rfl (by decide))))
 all_goals repeat' (first|(apply id_rw;first|(apply rx_call (k := 145);rfl;(apply list4_c <;> omega);(rfl);rfl;(rintro _ ⟨l,nx,rfl,hql⟩ _))|(apply rx_callE (k := 50);rfl;(exact validS_c ⟨xs,l⟩ (by show xs.length ≤ _; omega) (by show cntL l ≤ 100000000;rcases hql with ⟨_,h9⟩|h9;(rw [h9]; decide);omega));exact Pur.pf;rfl)|(apply rx_call (k := 51);rfl;exact l1Program_c ⟨xs,l⟩ (by assumption);exact Pur.pf;rfl;(rintro _ ⟨t,rfl⟩ _))|(apply rx_sbin;rfl;rfl;(rfl);rfl))|refine stpb ?_|(refine stp2 ?_ ?_ <;> intro hc hq <;> try (exfalso;omega))|(refine stp3 ?_ ?_ <;> intro hg hq <;> try (exfalso;omega))|fail)
 all_goals first
  | exact rq_ret (l := [.agg [.imm 0 [],.imm 0 []],bv false]) rfl ⟨qprog0 false,rfl⟩
  | (refine rq_ret (l := [.agg [.imm xs.length (flat cI xs), sl cStmt l], bv true]) rfl ⟨⟨⟨xs, l⟩, true, rfl, ?_, by show xs.length ≤ _; omega⟩, Pur.pf⟩
     show cntL l ≤ _
     rcases hql with ⟨_,h9⟩|h9
     ·rw [h9]; simp [cntL]
     ·omega)
class NumS (cs : List AV) (xs : outParam (List ByteArray)) : Prop where h : cs = flat cStr xs
instance NumS.nil : NumS [] []:=⟨rfl⟩
instance NumS.cons {n : ByteArray} {cs : List AV} {xs : List ByteArray} [h : NumS cs xs] : NumS (.v (.string n) :: cs) (n :: xs):=⟨by rw [h.h]; rfl⟩
theorem texts_of {cs:List AV}{xs:List ByteArray}{m:Nat}(h:NumS cs xs) (hm:m = xs.length) (hs:xs.all (fun s => decide (s.size ≤ 600)) = true):∃ ys:List ByteArray,AV.imm m cs = sl cStr ys ∧ ys.length = m ∧ ∀ i:Nat,(ys[i]!).size ≤ 600:=by
 refine ⟨xs,by rw [h.h,hm],hm.symm,fun i => ?_⟩
 by_cases hi : i < xs.length
 ·rw [List.all_eq_true] at hs
  rw [getB _ _ hi]
  simpa using hs _ (List.getElem_mem hi)
 ·rw [getElem!_neg xs i hi]; decide
theorem l1Texts_c:PC Tryz.prog 96 [] (fun r => ∃ ys:List ByteArray,r = sl cStr ys ∧ ys.length = 25 ∧ ∀ i:Nat,(ys[i]!).size ≤ 600):=by
 refine pc_start Tryz.func96 Tryz.ntmps96 ?_
 repeat' (first|(apply id_rw;(apply rx_buildSliceI (t := _);rfl;rfl;rfl;exact (rfl:_=some [_,_,_,_,_,_,_,_,_,_,_,_,_,_,_,_,_,_,_,_,_,_,_,_,_]);rfl;rfl))|refine stpb ?_|fail)
 refine rq_q (l := [.imm 25 [_,_,_,_,_,_,_,_,_,_,_,_,_,_,_,_,_,_,_,_,_,_,_,_,_]]) ?_ rfl ?_
 ·rintro _ ⟨ys,rfl,_⟩; exact pur_sl _ _
 ·exact texts_of inferInstance rfl (by decide)
theorem rx_prgcall {P:Program}{N:Nat}{Q:Exit → AS → Prop}{all:Array Oper}{rest:List Oper}{ts:List (Nat × AV)}{hs:List (Nat × Option (List AV))}{n:Nat}{z0:Lo}{ty:TypeId}{pos:String}{af:Array Edge}{d:Nat}{args:Array Operand}{tys:Array TypeId}
  {k : FuncId} {pv : List AV} {p0 : Prg × Nat → Prop} {i p : Nat} {bs : List UInt8} (h : MC P k (.optr 0 0 :: pv) [(0,some (cRd bs p))] 1 p0 (fun x => aPrg x.1) (fun x => [(0,some (cRd bs x.2))])) [hc : CaT P k] (ha : evL (lk ts) args.toList = some (.optr i 0 :: pv)) (hpv : pursB pv = true)
  (hH : lkH hs i = some (cRd bs p)) (hM : Nat.ble (n + 0) big = true) (hN : Nat.blt d N = true) (kk : ∀ x,p0 x → RW P N all Q .txt rest ⟨(d,aPrg x.1) :: ts,(i,some (cRd bs x.2)) :: hs,n + 0,z0⟩) :
  RW P N all Q .txt (⟨some d,.call ⟨.value (.func k),args,tys⟩,ty,pos,af,none⟩ :: rest) ⟨ts,hs,n,z0⟩ :=
 rx_mcall (σ := Prg × Nat) [i] 1 (fun x : Prg × Nat => [(i, some (cRd bs x.2))]) h ha rfl ⟨⟨_, _, rfl, hH, RnL.purI inferInstance⟩, trivial⟩ rfl (RnL.cons (RnV.optr rfl) (RnL.pur hpv)) (by simpa using hM)
  (fun x _ => RnV.purI inferInstance) (fun x _ => by simp [wsAll]) (fun x _ => ⟨⟨0,_,rfl,rfl,RnL.purI inferInstance⟩,trivial⟩) hN kk
theorem num_bd (bs:List UInt8) (p:Nat) (xs:List Int) (lo hi:Int) (h0:0 < xs.length) (h:xs.all (fun x => decide (lo ≤ x) && decide (x ≤ hi)) = true):lo ≤ numF bs p xs ∧ numF bs p xs ≤ hi:=by
 have h1 := pickF_bd bs p (xs.length : Int)
 rw [all_iff] at h
 have := h (pickF bs p (xs.length : Int)).toNat (by omega)
 simp only [Bool.and_eq_true,decide_eq_true_eq] at this
 exact this
theorem draw_c (bs:List UInt8) (p:Nat) (hb:bs.length ≤ 2000) (hp:p ≤ 1000):MC Tryz.prog 55 [.optr 0 0] [(0,some (cRd bs p))] 1 (fun x:Prg × Nat => cntL x.1.body ≤ 620 ∧ x.1.types.length ≤ 620 ∧ x.2 ≤ 2000) (fun x => aPrg x.1) (fun x => [(0,some (cRd bs x.2))]):=by
 have h0 := pickF_bd bs p 25
 have hn := num_bd bs (p + 1 + 1) [5,4,7,3,8] 0 8 (by decide) (by decide)
 refine mc_start Tryz.func55 Tryz.ntmps55 ?_
 repeat' (first|(apply id_rw;first|(apply rx_call (k := 96);rfl;exact l1Texts_c;(rfl);rfl;(rintro _ ⟨ys,rfl,hyl,hsz⟩ _);(have hpk := pickF_bd bs p (ys.length : Int)))|(apply rx_call (k := 97);rfl;exact parseProgram_c _ (Nat.le_trans (hsz _) (by decide));(rfl);rfl;(rintro _ ⟨q,b,rfl,hqc,hqt⟩ _))|(apply rx_l1Some (ts := [1,2,2,3,4,4]);rfl;rfl;rfl;rfl;rfl;(apply l1Some_c <;> (first|assumption|omega));rfl;rfl)|(apply rx_buildSliceI (t := _);rfl;rfl;rfl;(exact (rfl:_=some [_,_,_,_,_,_]));rfl;rfl)|(first|(apply rx_pick;rfl;rfl;(rfl);(apply pick_c <;> (first|assumption|omega));rfl;rfl)|(apply rx_numO;rfl;rfl;rfl;rfl;infer_instance;rfl;(rfl);assumption;omega;(decide);(decide);rfl;rfl)))|refine stpb ?_|(refine stp2 ?_ ?_ <;> intro hc hq <;> try (exfalso;omega))|(refine stp3 ?_ ?_ <;> intro hg hq <;> try (exfalso;omega))|refine stpd ?_|fail)
 ·have h9 := hsz (pickF bs p (ys.length : Int)).toNat
  refine rq_ret rfl ?_
  exact mc_ret (q,p + 1 + 1) ⟨by dsimp only;omega,by dsimp only;omega,by dsimp only;omega⟩ rfl ⟨.inr rfl,trivial⟩
 ·have h9 := someF_n bs (d := 2) (by omega) (numF bs (p + 1 + 1) [5, 4, 7, 3, 8]) (p + 1 + 1 + 1)
  have h10 := someF_p bs (d := 2) (by omega) (numF bs (p + 1 + 1) [5,4,7,3,8]) (p + 1 + 1 + 1)
  refine rq_ret rfl ?_
  exact mc_ret ((⟨[1,2,2,3,4,4],(someF bs 2 (numF bs (p + 1 + 1) [5,4,7,3,8]) (p + 1 + 1 + 1)).1⟩ : Prg),(someF bs 2 (numF bs (p + 1 + 1) [5,4,7,3,8]) (p + 1 + 1 + 1)).2) ⟨by dsimp only;omega,by show 6 ≤ 620;decide,by dsimp only;omega⟩ rfl ⟨.inr rfl,trivial⟩
 ·have h9 := hsz (pickF bs p (ys.length : Int)).toNat
  refine rq_ret rfl ?_
  exact mc_ret (q,p + 1 + 1) ⟨by dsimp only;omega,by dsimp only;omega,by dsimp only;omega⟩ rfl ⟨.inr rfl,trivial⟩
theorem rx_l17Open {bs:List UInt8}{x0:Operand}(ha0:ev (lk tsl) x0 = some (sl cU bs)) (hmc:MC Tryz.prog 32 [sl cU bs] [] 0 (fun _:Unit => True) (fun _ => .optr 0 0) (fun _ => [(0,some (cRd (bs.take 2000) 0))])) (hM:Nat.ble (nidl + 1) big = true) (hN:Nat.blt d N = true){md':Md}[hmd:MdA md (rOs [x0] ++ []) (List.map Sum.inr (List.map Prod.fst ([(nidl,some (cRd (bs.take 2000) 0))]:List (Nat × Option (List AV)))) ++ [.inl d]) md'] (kk:RW Tryz.prog N all Q md' rest ⟨(d,.optr nidl 0) :: tsl,wrH hsl [(nidl,some (cRd (bs.take 2000) 0))],nidl + 1,z0⟩):RW Tryz.prog N all Q md (⟨some d,.call ⟨.value (.func 32),#[x0],tys⟩,ty,pos,af,none⟩ :: rest) ⟨tsl,hsl,nidl,z0⟩:=by
 exact rx_mcallA (l := [x0]) [] 1 [(nidl,some (cRd (bs.take 2000) 0))] hmc (avs := [sl cU bs]) (by simp only [evL,ha0]) rfl hM hN (md' := md') (hmd := hmd) kk
theorem l17Open_c (bs:List UInt8) (hb:bs.length ≤ 1048576):MC Tryz.prog 32 [sl cU bs] [] 0 (fun _:Unit => True) (fun _ => .optr 0 0) (fun _ => [(0,some (cRd (bs.take 2000) 0))]) := open_c bs hb
def u1 (Af : List Nat) (i loan : Int) (v : Int) : Bool := (row6 Af i.toNat)[v.toNat]!.testBit loan.toNat
theorem tgIx_first {stk:List Tg}{id:Int}(h:0 ≤ tgIx stk id):∀ k < (tgIx stk id).toNat,stk[k]!.id ≠ id:=by
 unfold tgIx at h ⊢
 split
 ·rename_i k hk
  obtain ⟨h1,h2,h3⟩ := List.findIdx?_eq_some_iff_getElem.1 hk
  rw [Int.toNat_natCast]
  intro j hj he
  have := h3 j hj
  rw [getB _ _ (by omega)] at he
  simp [he] at this
 ·rename_i hk;rw [hk] at h;dsimp only at h;omega
theorem tgIx_eq {stk:List Tg}{id:Int}{i:Nat}(hi:i < stk.length) (h:stk[i]!.id = id) (hn:∀ k < i,stk[k]!.id ≠ id):tgIx stk id = (i:Int):=by
 have hb := tgIx_bd stk id
 by_cases hneg : tgIx stk id < 0
 ·have := tgIx_none.1 hneg stk[i]! (by rw [getB _ _ hi]; exact List.getElem_mem hi)
  exact absurd h this
 ·have ha := tgIx_at (stk := stk) (id := id) (by omega)
  have hf := tgIx_first (stk := stk) (id := id) (by omega)
  rcases Nat.lt_trichotomy (tgIx stk id).toNat i with h1|h1|h1
  ·exact absurd ha (hn _ h1)
  ·omega
  ·exact absurd h (hf _ h1)
theorem l6Tag_c (stk:List Tg) (id:Int) (hl:stk.length ≤ 1048576):PC Tryz.prog 278 [sl cTg stk,iv id] (fun r => r = iv (tgIx stk id)):=by
 refine pc_start Tryz.func278 Tryz.ntmps278 ?_
 repeat' (first|refine stpb ?_|fail)
 refine aw_loopA (σ := Nat) [0,1] [] (fun i => [(5,iv (i : Int))]) (fun i => []) (fun i => i ≤ stk.length ∧ (∀ k < i,stk[k]!.id ≠ id)) (fun i => stk.length - i) (0) ⟨Nat.zero_le _,fun k hk => absurd hk (by omega)⟩ ?_
 rintro i ⟨hi,hn⟩
 try dsimp only at hi hn
 repeat' (first|refine stpb ?_|(refine stp2 ?_ ?_ <;> intro hc hq <;> try (exfalso;omega))|fail)
 ·refine rq_ret rfl ⟨?_, rfl⟩
  simp only [oneOf]; rw [tgIx_eq (i := i) (by omega) (by assumption) hn]
 ·(refine ex3 (i + 1) (Le.renA []) ?_ ?_)
  ·refine ⟨by omega, fun k hk => ?_⟩
   rcases Nat.lt_or_ge k i with h|h
   ·exact hn k h
   ·rw [show k = i by omega]; assumption
  ·show stk.length - (i + 1) < stk.length - i;omega
 ·refine rq_ret rfl ⟨?_, rfl⟩
  have := tgIx_none (stk := stk) (id := id)
  have hb := tgIx_bd stk id
  have : tgIx stk id < 0 := this.2 (fun t ht => by obtain ⟨k,hk,rfl⟩ := List.getElem_of_mem ht;have := hn k (by omega);rwa [getB _ _ hk] at this)
  simp only [oneOf]; rw [show tgIx stk id = -1 by omega]
theorem OkC_iff (c:Cl):OkC c ↔ (0 ≤ c.val ∧ c.val ≤ 9) ∧ (1 ≤ c.next ∧ c.next ≤ 1000) ∧ (1 ≤ c.stk.length ∧ c.stk.length ≤ 200) ∧ c.stk[0]!.uq = true ∧ (∀ k < c.stk.length,0 ≤ c.stk[k]!.id ∧ c.stk[k]!.id < c.next ∧ tgIx c.stk c.stk[k]!.id = (k:Int)):=by
 constructor
 ·intro h
  refine ⟨h.v,h.n,h.l,h.u,fun k hk => ?_⟩
  have h1 := h.i c.stk[k]! (by rw [getB _ _ hk]; exact List.getElem_mem hk)
  refine ⟨h1.1,h1.2,tgIx_eq hk rfl (fun j hj he => ?_)⟩
  have hd := List.nodup_iff_pairwise_ne.1 h.d |> List.pairwise_iff_getElem.1
  have := hd j k (by rw [List.length_map]; omega) (by rw [List.length_map]; omega) hj
  simp only [List.getElem_map] at this
  rw [getB _ _ (by omega),getB _ _ hk] at he
  exact this he
 ·rintro ⟨h1, h2, h3, h4, h5⟩
  refine ⟨h1,h2,h3,h4,fun t ht => ?_,?_⟩
  ·obtain ⟨k, hk, rfl⟩ := List.getElem_of_mem ht
   have := h5 k hk;rw [getB _ _ hk] at this
   exact ⟨this.1,this.2.1⟩
  ·rw [List.nodup_iff_pairwise_ne, List.pairwise_iff_getElem]
   intro i j hi hj hij he
   rw [List.length_map] at hi hj
   simp only [List.getElem_map] at he
   have a := (h5 i hi).2.2
   have b := (h5 j hj).2.2
   rw [getB _ _ hi] at a;rw [getB _ _ hj,← he,a] at b
   omega
instance (c : Cl) : Decidable (OkC c) := decidable_of_iff _ (OkC_iff c).symm
theorem OkM_iff (m:List Cl):OkM m ↔ m.length ≤ 200 ∧ ∀ k < m.length,OkC m[k]!:=by
 constructor
 ·exact fun h => ⟨h.l,fun k hk => h.c _ (by rw [getB _ _ hk]; exact List.getElem_mem hk)⟩
 ·exact fun h => ⟨h.1,fun c hc => by obtain ⟨k,hk,rfl⟩ := List.getElem_of_mem hc;have := h.2 k hk;rwa [getB _ _ hk] at this⟩
instance (m : List Cl) : Decidable (OkM m) := decidable_of_iff _ (OkM_iff m).symm
theorem l6Cell_c (c:Cl):PC Tryz.prog 276 [aCl c] (fun r => r = bv (decide (OkC c))):=by
 refine pc_start Tryz.func276 Tryz.ntmps276 ?_
 repeat' (first|refine stpb ?_|(refine stp2 ?_ ?_ <;> intro hc hq <;> try (exfalso;omega))|(refine stp3 ?_ ?_ <;> intro hg hq <;> try (exfalso;omega))|fail)
 all_goals try (refine rq_ret rfl ⟨?_, rfl⟩; simp only [oneOf]; rw [show decide (OkC c) = false from decide_eq_false (fun h => by
  obtain ⟨h1,h2,h3,h4,h5⟩ := (OkC_iff c).1 h
  first|omega|exact absurd (by assumption : c.stk[Int.toNat 0]!.uq = false) (by rw [show Int.toNat 0 = 0 from rfl,h4]; decide))]; done)
 have hu : c.stk[0]!.uq = true := by assumption
 refine aw_loopA (σ := Nat) [1] [0] (fun i => [(3,iv (i : Int))]) (fun i => []) (fun i => i ≤ c.stk.length ∧ (∀ k < i,0 ≤ c.stk[k]!.id ∧ c.stk[k]!.id < c.next ∧ tgIx c.stk c.stk[k]!.id = (k : Int))) (fun i => c.stk.length - i) (0) ⟨Nat.zero_le _,fun k hk => absurd hk (by omega)⟩ ?_
 rintro i ⟨hi,hn⟩
 try dsimp only at hi hn
 repeat' (first|(apply id_rw;(apply rx_callE (k := 278);rfl;exact l6Tag_c c.stk c.stk[i]!.id (by omega);exact Pur.pf;rfl))|refine stpb ?_|(refine stp2 ?_ ?_ <;> intro hc hq <;> try (exfalso;omega))|(refine stp3 ?_ ?_ <;> intro hg hq <;> try (exfalso;omega))|refine stpd ?_|fail)
 all_goals try (refine rq_ret rfl ⟨?_, rfl⟩; simp only [oneOf]; rw [show decide (OkC c) = false from decide_eq_false (fun h => by
  obtain ⟨h1,h2,h3,h4,h5⟩ := (OkC_iff c).1 h
  exact absurd (h5 i (by omega)) (by omega))]; done)
 ·(refine ex3 (i + 1) (Le.renA [(0, 0)]) ?_ ?_)
  ·refine ⟨by omega, fun k hk => ?_⟩
   rcases Nat.lt_or_ge k i with h|h
   ·exact hn k h
   ·rw [show k = i by omega]; exact ⟨by assumption,by assumption,by assumption⟩
  ·show c.stk.length - (i + 1) < c.stk.length - i;omega
 ·refine rq_ret rfl ⟨?_, rfl⟩
  simp only [oneOf]
  rw [show decide (OkC c) = true from decide_eq_true ((OkC_iff c).2 ⟨by omega,by omega,by omega,hu,fun k hk => hn k (by omega)⟩)]
theorem CellsValidS_c (m:List Cl) (hl:m.length ≤ 1048576):PC Tryz.prog 218 [sl cCl m] (fun r => r = bv (decide (OkM m))):=by
 refine pc_start Tryz.func218 Tryz.ntmps218 ?_
 repeat' (first|refine stpb ?_|fail)
 refine aw_loopA (σ := Nat) [0] [] (fun i => [(3,iv (i : Int))]) (fun i => []) (fun i => i ≤ m.length ∧ i ≤ 201 ∧ (∀ k < i,OkC m[k]!)) (fun i => m.length - i) (0) ⟨Nat.zero_le _,by omega,fun k hk => absurd hk (by omega)⟩ ?_
 rintro i ⟨hi,hi2,hn⟩
 try dsimp only at hi hi2 hn
 repeat' (first|(apply id_rw;(apply rx_callE (k := 276);rfl;exact l6Cell_c m[i]!;exact Pur.pf;rfl))|refine stpb ?_|(refine stp2 ?_ ?_ <;> intro hc hq <;> try (exfalso;omega))|(refine stp3 ?_ ?_ <;> intro hg hq <;> try (exfalso;omega))|fail)
 ·refine rq_ret rfl ⟨?_, rfl⟩
  simp only [oneOf]; rw [show decide (OkM m) = false from decide_eq_false (fun h => by
   have h1 := ((OkM_iff m).1 h).2 i (by omega)
   have h2 : ¬ OkC m[i]! := by assumption
   exact h2 h1)]
 ·(refine ex3 (i + 1) (Le.renA []) ?_ ?_)
  ·refine ⟨by omega, by omega, fun k hk => ?_⟩
   rcases Nat.lt_or_ge k i with h|h
   ·exact hn k h
   ·rw [show k = i by omega]; assumption
  ·show m.length - (i + 1) < m.length - i;omega
 ·refine rq_ret rfl ⟨?_, rfl⟩
  simp only [oneOf]
  rw [show decide ((m.length : Int) ≤ 200) = false from decide_eq_false (by omega),show decide (OkM m) = false from decide_eq_false (fun h => by have := h.l;omega)]
 ·refine rq_ret rfl ⟨?_, rfl⟩
  simp only [oneOf]
  rw [show decide ((m.length : Int) ≤ 200) = decide (OkM m) from decide_eq_decide.2 ⟨fun h => (OkM_iff m).2 ⟨by omega,fun k hk => hn k (by omega)⟩,fun h => by have := h.l;omega⟩]
theorem l7Code_c (k:Int):PC Tryz.prog 160 [iv k] (fun r => r = iv (if k = 1 then 3 else if k = 0 then 0 else 4)):=by
 refine pc_start Tryz.func160 Tryz.ntmps160 ?_
 repeat' (first|refine stpb ?_|(refine stp2 ?_ ?_ <;> intro hc hq <;> try (exfalso;omega))|refine stpr ?_|fail)
 all_goals (refine ⟨?_,rfl⟩; simp only [oneOf,AV.v.injEq,Value.bool.injEq,Value.int.injEq,true_and])
 all_goals grind
theorem endOf_c (k:Int):PC Tryz.prog 154 [iv k] (fun r => r = iv (endK k)):=by
 refine pc_start Tryz.func154 Tryz.ntmps154 ?_
 repeat' (first|refine stpb ?_|(refine stp2 ?_ ?_ <;> intro hc hq <;> try (exfalso;omega))|refine stpr ?_|fail)
 all_goals (refine ⟨?_,rfl⟩; simp only [oneOf,AV.v.injEq,Value.bool.injEq,Value.int.injEq,true_and])
 all_goals grind [endK]
theorem app_tg {xs:List Tg}{m:Nat}{a:Int}{b:Bool}(hm:m = xs.length):((flat cTg xs).drop 0).take (m * 2) ++ [iv a,bv b] = flat cTg (xs ++ [⟨a,b⟩]) := app_flat hm rfl
theorem app_cl {xs:List Cl}{m:Nat}{a c:Int}{b:Bool}{s:List Tg}(hm:m = xs.length):((flat cCl xs).drop 0).take (m * 4) ++ [iv a,bv b,iv c,sl cTg s] = flat cCl (xs ++ [⟨a,b,c,s⟩]) := app_flat hm rfl
theorem take_succ_d {α:Type}[Inhabited α] (l:List α){k i:Nat}(h:k ≤ i) (hi:i < l.length):(l.drop k).take (i + 1 - k) = (l.drop k).take (i - k) ++ [l[i]!]:=by
 have hl : i - k < (l.drop k).length := by rw [List.length_drop]; omega
 have h1 := take_succB (l.drop k) (i - k) hl
 rw [show i + 1 - k = i - k + 1 by omega,h1]
 congr 2
 rw [getB (l.drop k) (i - k) hl,List.getElem_drop,getB l i hi]
 congr 1;omega
theorem filter1_t {α}{p:α → Bool}{a:α}(h:p a = true):[a].filter p = [a] := by simp [h]
theorem filter1_f {α}{p:α → Bool}{a:α}(h:p a = false):[a].filter p = [] := by simp [h]
theorem l6Read_c (stk:List Tg) (k:Nat) (hk:k < stk.length) (hl:stk.length ≤ 1048576):PC Tryz.prog 223 [sl cTg stk,iv (k:Int)] (fun r => r = sl cTg (tchS stk k false)):=by
 have e1 : List.take (((k : Int) + 1).toNat - 0) (List.drop 0 stk) = stk.take (k + 1) := by rw [List.drop_zero]; congr 1
 have e2 : (stk.take (k + 1)).length = k + 1 := by rw [List.length_take]; omega
 refine pc_start Tryz.func223 Tryz.ntmps223 ?_
 repeat' (first|(apply id_rw;(with_reducible apply rw_stop (d := 12)))|refine stpb ?_|fail)
 refine rw_go ?_
 rw [e1]
 repeat' (first|refine stpb ?_|fail)
 refine aw_loopA (σ := Nat × List Tg × Nat) [0] [] (fun s => [(6,iv (s.1 : Int)),(5,.own 1 0 s.2.2 2)]) (fun s => [(1,some (flat cTg s.2.1))]) (fun s => k + 1 ≤ s.1 ∧ s.1 ≤ stk.length ∧ s.2.1 = stk.take (k + 1) ++ ((stk.drop (k + 1)).take (s.1 - (k + 1))).filter (fun t => !t.uq) ∧ s.2.2 = s.2.1.length ∧ s.2.2 ≤ s.1) (fun s => stk.length - s.1) (k + 1,stk.take (k + 1),0 + (stk.take (k + 1)).length) ⟨Nat.le_refl _,by dsimp only;omega,by simp,by dsimp only;omega,by dsimp only;omega⟩ ?_
 rintro ⟨i,xs,n⟩ ⟨hki,hi,hxs,hn,hni⟩
 dsimp only at hki hi hxs hn hni ⊢
 repeat' (first|(apply id_rw;first|(apply rx_append;rfl;rfl;rfl;rfl;rfl;(rw [flat_length]; omega);(rfl);omega;omega;(exact app_tg (by (assumption)));rfl;rfl)|(apply rx_buildSliceI (t := _);rfl;rfl;rfl;(exact (rfl:_=some [_,_]));rfl;rfl))|refine stpb ?_|(refine stp2 ?_ ?_ <;> intro hc hq <;> try (exfalso;omega))|fail)
 ·(refine ex3 (i + 1, _, _) (Le.renA [(1, 3)]) ?_ ?_)
  ·refine ⟨by dsimp only; omega, by dsimp only; omega, ?_, by dsimp only; rw [List.length_append, hn]; rfl, by dsimp only; omega⟩
   dsimp only
   rw [hxs,take_succ_d stk hki (by omega),List.filter_append,List.append_assoc]
   congr 2
   have hu : stk[i]!.uq = false := by assumption
   rw [filter1_t (by rw [hu]; rfl)]
  ·dsimp only;omega
 ·(refine ex3 (i + 1, xs, n) (Le.renA [(1, 1)]) ?_ ?_)
  ·refine ⟨by dsimp only; omega, by dsimp only; omega, ?_, hn, by dsimp only; omega⟩
   dsimp only
   have hu : stk[i]!.uq = true := by assumption
   rw [hxs,take_succ_d stk hki (by omega),List.filter_append,filter1_f (by rw [hu]; rfl),List.append_nil]
  ·dsimp only;omega
 ·(refine rq_le (Le.frzD (d := 4) (i := 1) rfl rfl) ?_; refine rq_ret rfl ?_)
  refine ⟨?_,(by (exact pur_sl _ _))⟩
  have hie : i = stk.length := by omega
  simp only [oneOf,sl]
  have hd : (stk.drop (k + 1)).take (stk.length - (k + 1)) = stk.drop (k + 1) := List.take_of_length_le (by rw [List.length_drop]; exact Nat.le_refl _)
  rw [hn,hxs,hie,hd]
  rfl
theorem l6Copy_c (m:List Cl) (hm:OkM m):PC Tryz.prog 219 [sl cCl m] (fun r => r = sl cCl m):=by
 have hml := hm.l
 refine pc_start Tryz.func219 Tryz.ntmps219 ?_
 repeat' (first|refine stpb ?_|fail)
 refine aw_loopA (σ := Nat × List Cl) [0] [] (fun k => [(4,iv (k.1 : Int)),(3,.own 0 0 k.1 4)]) (fun k => [(0,some (flat cCl k.2))]) (fun k => k.1 ≤ m.length ∧ k.2 = m.take k.1) (fun k => m.length - k.1) (0,[]) ⟨by omega,rfl⟩ ?_
 rintro ⟨i,xs⟩ ⟨hi,hxs⟩
 dsimp only at hi hxs ⊢
 have hln : xs.length = i := by rw [hxs,List.length_take]; exact Nat.min_eq_left hi
 have hst : i < m.length → m[i]!.stk.length ≤ 200 := fun h => (((OkM_iff m).1 hm).2 i h).l.2
 repeat' (first|(apply id_rw;(with_reducible apply rw_stop (d := 21)))|refine stpb ?_|(refine stp2 ?_ ?_ <;> intro hc hq <;> try (exfalso;omega))|fail)
 ·refine rw_go (rw_le ?_ (Le.frzD (d := 20) (i := 3) rfl rfl))
  rw [Nat.zero_add m[i]!.stk.length]
  repeat' (first|(apply id_rw;first|(apply rx_append;rfl;rfl;rfl;rfl;rfl;(rw [flat_length]; omega);(rfl);omega;omega;(exact app_cl (by (omega)));rfl;rfl)|(apply rx_buildSliceI (t := _);rfl;rfl;rfl;(exact (rfl:_=some [_,_,_,_]));rfl;rfl))|refine stpb ?_|fail)
  (refine ex3 (i + 1,_) (Le.renA [(0,5)]) ?_ ?_)
  ·exact ⟨by dsimp only;omega,by dsimp only;rw [hxs,take_succB m i (by omega)]⟩
  ·dsimp only;omega
 ·(refine rq_le (Le.frzD (d := 2) (i := 0) rfl rfl) ?_; refine rq_ret rfl ?_)
  refine ⟨?_,(by (exact pur_sl _ _))⟩
  have hie : i = m.length := by omega
  simp only [oneOf,sl]
  rw [hxs,hie,List.take_length]
theorem tchK_4 {m:List Cl}{x:Pt}{wr:Bool}(h:x.cell < 0 ∨ (m.length:Int) ≤ x.cell):tchK m x wr = 4:=by
 unfold tchK;rw [if_pos (by omega)]
theorem tchK_1 {m:List Cl}{x:Pt}{wr:Bool}(h:0 ≤ x.cell) (h2:x.cell < m.length) (h3:m[x.cell.toNat]!.alive = false):tchK m x wr = 1:=by
 unfold tchK;rw [if_neg (by omega),if_pos h3]
theorem tchK_2 {m:List Cl}{x:Pt}{wr:Bool}(h:0 ≤ x.cell) (h2:x.cell < m.length) (h3:m[x.cell.toNat]!.alive = true) (h4:tgIx m[x.cell.toNat]!.stk x.tag < 0):tchK m x wr = 2:=by
 unfold tchK;rw [if_neg (by omega),if_neg (by rw [h3]; decide),if_pos h4]
theorem tchK_0f {m:List Cl}{x:Pt}(h:0 ≤ x.cell) (h2:x.cell < m.length) (h3:m[x.cell.toNat]!.alive = true) (h4:0 ≤ tgIx m[x.cell.toNat]!.stk x.tag):tchK m x false = 0:=by
 unfold tchK;rw [if_neg (by omega),if_neg (by rw [h3]; decide),if_neg (by omega),if_neg (by intro q;exact absurd q.1 (by decide))]
theorem tchK_wr {m:List Cl}{x:Pt}:tchK m x true = if tchK m x false = 0 then (if m[x.cell.toNat]!.stk[(tgIx m[x.cell.toNat]!.stk x.tag).toNat]!.uq = false then 3 else 0) else tchK m x false:=by
 unfold tchK
 split
 ·rw [if_neg (by decide)]
 ·split
  ·rw [if_neg (by decide)]
  ·split
   ·rw [if_neg (by decide)]
   ·rw [if_neg (c := false = true ∧ _) (by intro q; exact absurd q.1 (by decide)), if_pos rfl]
    simp only [true_and]
theorem tchK_in {m:List Cl}{x:Pt}{wr:Bool}(h:tchK m x wr = 0):0 ≤ x.cell ∧ x.cell < m.length ∧ m[x.cell.toNat]!.alive = true ∧ 0 ≤ tgIx m[x.cell.toNat]!.stk x.tag ∧ (wr = true → m[x.cell.toNat]!.stk[(tgIx m[x.cell.toNat]!.stk x.tag).toNat]!.uq = true):=by
 unfold tchK at h
 split at h
 ·omega
 ·split at h
  ·omega
  ·split at h
   ·omega
   ·split at h
    ·omega
    ·rename_i a b c d
     refine ⟨by omega,by omega,by simpa using b,by omega,fun hw => ?_⟩
     by_cases q : m[x.cell.toNat]!.stk[(tgIx m[x.cell.toNat]!.stk x.tag).toNat]!.uq = false
     ·exact absurd ⟨hw,q⟩ d
     ·simpa using q
theorem rx_l6CopyM {m:List Cl}{x0:Operand}(ha0:ev (lk tsl) x0 = some (sl cCl m)) (hmc:MC Tryz.prog 219 [sl cCl m] [] 0 (fun _:Unit => True) (fun _ => .own 0 0 m.length 4) (fun _ => [(0,some (flat cCl m))])) (hM:Nat.ble (nidl + 1) big = true) (hN:Nat.blt d N = true){md':Md}[hmd:MdA md (rOs [x0] ++ []) (List.map Sum.inr (List.map Prod.fst ([(nidl,some (flat cCl m))]:List (Nat × Option (List AV)))) ++ [.inl d]) md'] (kk:RW Tryz.prog N all Q md' rest ⟨(d,.own nidl 0 m.length 4) :: tsl,wrH hsl [(nidl,some (flat cCl m))],nidl + 1,z0⟩):RW Tryz.prog N all Q md (⟨some d,.call ⟨.value (.func 219),#[x0],tys⟩,ty,pos,af,none⟩ :: rest) ⟨tsl,hsl,nidl,z0⟩:=by
 exact rx_mcallA (l := [x0]) [] 1 [(nidl,some (flat cCl m))] hmc (avs := [sl cCl m]) (by simp only [evL,ha0]) rfl hM hN (md' := md') (hmd := hmd) kk
theorem l6CopyM_c (m:List Cl) (hm:OkM m):MC Tryz.prog 219 [sl cCl m] [] 0 (fun _:Unit => True) (fun _ => .own 0 0 m.length 4) (fun _ => [(0,some (flat cCl m))]):=by
 have hml := hm.l
 refine mc_start Tryz.func219 Tryz.ntmps219 ?_
 repeat' (first|refine stpb ?_|fail)
 refine aw_loopA (σ := Nat × List Cl) [0] [] (fun k => [(4,iv (k.1 : Int)),(3,.own 0 0 k.1 4)]) (fun k => [(0,some (flat cCl k.2))]) (fun k => k.1 ≤ m.length ∧ k.2 = m.take k.1) (fun k => m.length - k.1) (0,[]) ⟨by omega,rfl⟩ ?_
 rintro ⟨i,xs⟩ ⟨hi,hxs⟩
 dsimp only at hi hxs ⊢
 have hln : xs.length = i := by rw [hxs,List.length_take]; exact Nat.min_eq_left hi
 have hst : i < m.length → m[i]!.stk.length ≤ 200 := fun h => (((OkM_iff m).1 hm).2 i h).l.2
 repeat' (first|(apply id_rw;(with_reducible apply rw_stop (d := 21)))|refine stpb ?_|(refine stp2 ?_ ?_ <;> intro hc hq <;> try (exfalso;omega))|fail)
 ·refine rw_go (rw_le ?_ (Le.frzD (d := 20) (i := 3) rfl rfl))
  rw [Nat.zero_add m[i]!.stk.length]
  repeat' (first|(apply id_rw;first|(apply rx_append;rfl;rfl;rfl;rfl;rfl;(rw [flat_length]; omega);(rfl);omega;omega;(exact app_cl (by (omega)));rfl;rfl)|(apply rx_buildSliceI (t := _);rfl;rfl;rfl;(exact (rfl:_=some [_,_,_,_]));rfl;rfl))|refine stpb ?_|fail)
  (refine ex3 (i + 1,_) (Le.renA [(0,5)]) ?_ ?_)
  ·exact ⟨by dsimp only;omega,by dsimp only;rw [hxs,take_succB m i (by omega)]⟩
  ·dsimp only;omega
 ·have hie : i = m.length := by omega
  (refine rq_ret rfl ?_; refine mc_ret () trivial ?_ ⟨sE ?_,trivial⟩)
  ·rw [hie]; rfl
  ·rw [hxs,hie,List.take_length]
theorem l6Place_c (m:List Cl) (hm:OkM m) (x:Pt):PC Tryz.prog 222 [sl cCl m,aPt x] (fun r => r = .tup [iv (if tchK m x false = 0 then tgIx m[x.cell.toNat]!.stk x.tag else 0),iv (tchK m x false)]):=by
 have hml := hm.l
 have hcv := CellsValidS_c m (by omega)
 rw [decide_eq_true hm] at hcv
 have hst : 0 ≤ x.cell → x.cell < m.length → m[x.cell.toNat]!.stk.length ≤ 1048576 := fun h1 h2 => Nat.le_trans (((OkM_iff m).1 hm).2 x.cell.toNat (by omega)).l.2 (by decide)
 refine pc_start Tryz.func222 Tryz.ntmps222 ?_
 repeat' (first|(apply id_rw;first|(apply rx_callE (k := 218);rfl;exact hcv;exact Pur.pf;rfl)|(apply rx_callE (k := 278);rfl;exact l6Tag_c m[x.cell.toNat]!.stk x.tag (hst (by assumption) (by assumption));exact Pur.pf;rfl))|refine stpb ?_|(refine stp2 ?_ ?_ <;> intro hc hq <;> try (exfalso;omega))|(refine stp3 ?_ ?_ <;> intro hg hq <;> try (exfalso;omega))|refine stpd ?_|fail)
 all_goals (refine rq_ret rfl ⟨?_,rfl⟩; simp only [oneOf])
 ·rw [tchK_4 (by omega)]; rfl
 ·rw [tchK_1 (by assumption) (by assumption) (by assumption)]; rfl
 ·rw [tchK_2 (by assumption) (by assumption) (by assumption) (by assumption)]; rfl
 ·rw [tchK_0f (by assumption) (by assumption) (by assumption) (by assumption)]; rfl
 ·rw [tchK_4 (by omega)]; rfl
theorem st_clS {xs:List Cl}{k:Nat}{s:List Tg}(hk:k < xs.length):spl (flat cCl xs) (0 + k * 4 + 3) [sl cTg s] = flat cCl (xs.set k { xs[k]! with stk := s }) := st_flat hk (by simp) rfl
theorem st_clV {xs:List Cl}{k:Nat}{v:Int}(hk:k < xs.length):spl (flat cCl xs) (0 + k * 4 + 0) [iv v] = flat cCl (xs.set k { xs[k]! with val := v }) := st_flat hk (by simp) rfl
theorem st_clA {xs:List Cl}{k:Nat}{b:Bool}(hk:k < xs.length):spl (flat cCl xs) (0 + k * 4 + 1) [.v (.bool b)] = flat cCl (xs.set k { xs[k]! with alive := b }) := st_flat hk (by simp) rfl
theorem sl_len {α:Type}{f:α → List AV}{xs:List α}{n:Nat}(h:n = xs.length):AV.imm n (flat f xs) = sl f xs := by subst h;rfl
theorem ReadCellS_c (m:List Cl) (hm:OkM m) (x:Pt):PC Tryz.prog 166 [sl cCl m,aPt x] (fun r => r = .tup [sl cCl (tchM m x false),iv (rdN m x),iv (tchK m x false)]):=by
 have hml := hm.l
 have hst : 0 ≤ x.cell → x.cell < m.length → m[x.cell.toNat]!.stk.length ≤ 1048576 := fun h1 h2 => Nat.le_trans (((OkM_iff m).1 hm).2 x.cell.toNat (by omega)).l.2 (by decide)
 by_cases hk : tchK m x false = 0
 ·have hpl := l6Place_c m hm x
  rw [if_pos hk,hk] at hpl
  obtain ⟨h1,h2,h3,h4,_⟩ := tchK_in hk
  have hbd := tgIx_bd m[x.cell.toNat]!.stk x.tag
  have hrd := l6Read_c m[x.cell.toNat]!.stk (tgIx m[x.cell.toNat]!.stk x.tag).toNat (by omega) (hst h1 h2)
  rw [Int.toNat_of_nonneg h4] at hrd
  refine pc_start Tryz.func166 Tryz.ntmps166 ?_
  repeat' (first|(apply id_rw;first|(apply rx_l6CopyM;rfl;exact l6CopyM_c m hm;rfl;rfl)|(apply rx_callE (k := 222);rfl;exact hpl;exact Pur.pf;rfl)|(apply rx_callE (k := 223);rfl;exact hrd;exact Pur.pf;rfl)|(apply rx_store;rfl;rfl;rfl;rfl;rfl;(rw [flat_length]; simp only [lns] <;> omega);(exact st_clS (by (omega)))))|refine stpb ?_|refine stpd ?_|fail)
  (refine rq_le (Le.frzD (d := 4) (i := 1) rfl rfl) ?_; refine rq_ret rfl ?_)
  refine ⟨?_,by exact Pur.pf⟩
  simp only [oneOf]
  rw [sl_len (by rw [List.length_set]),hk]
  unfold tchM rdN;rw [if_pos hk,if_pos hk]; rfl
 ·have hpl := l6Place_c m hm x
  rw [if_neg hk] at hpl
  refine pc_start Tryz.func166 Tryz.ntmps166 ?_
  repeat' (first|(apply id_rw;first|(apply rx_l6CopyM;rfl;exact l6CopyM_c m hm;rfl;rfl)|(apply rx_callE (k := 222);rfl;exact hpl;exact Pur.pf;rfl))|refine stpb ?_|(refine stp2 ?_ ?_ <;> intro hc hq <;> try (exfalso;omega))|fail)
  (refine rq_le (Le.frzD (d := 4) (i := 1) rfl rfl) ?_; refine rq_ret rfl ?_)
  refine ⟨?_,by exact Pur.pf⟩
  simp only [oneOf]
  unfold tchM rdN;rw [if_neg hk,if_neg hk]
end Go.Proofs.YtjnhlgpbojggnaaGreatDoor
