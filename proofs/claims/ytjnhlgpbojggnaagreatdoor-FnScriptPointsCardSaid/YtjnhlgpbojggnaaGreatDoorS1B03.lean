/-
 A part of the proofs over this program: rules and contracts of its functions (the contracts).
-/
import Derived.Test.YtjnhlgpbojggnaaGreatDoorS1B02
import Derived.Deep.LoopGhost
set_option linter.unusedVariables false
set_option linter.unusedSimpArgs false
set_option maxHeartbeats 8000000
set_option maxRecDepth 4000
attribute [local irreducible] Go.AL.RW Go.AL.AW Go.AL.Stop
namespace Go.Proofs.YtjnhlgpbojggnaaGreatDoor
open Go.AL Go.RowKit
def RsC (s : AL.Stmt) (e : Int) (rs : List UInt8) : Prop := MC Tryz.prog 193 [.optr 0 0,iv e] [(0,some [sv (bA (tS s ++ rs)),bv false])] 1 (fun _ : Unit => True) (fun _ => aStmt s) (fun _ => [(0,some [sv (bA rs),bv false])])
def RlC (l : List AL.Stmt) (e : Int) (rs : List UInt8) : Prop := MC Tryz.prog 128 [.optr 0 0,iv e] [(0,some [sv (bA (tL l ++ rs)),bv false])] 1 (fun _ : Unit => True) (fun _ => sl cStmt l) (fun _ => [(0,some [sv (bA rs),bv false])])
theorem rsS_c {ts:List Int}(ht:typesOk ts = true){o x y n:Int}(e:Int) (rs:List UInt8) (h:simpleF ts (.mk o x y n [] []) = true) (hr:RS rs) (hl:rs.length ≤ 90000):RsC (.mk o x y n [] []) e rs:=by
 have hb := simple_bd ht h
 have hc := simple_can h
 simp only [AL.Stmt.op,AL.Stmt.x,AL.Stmt.y,AL.Stmt.n] at hb hc
 obtain ⟨b1,b2,b3,b4,b5,b6,b7⟩ := hb
 obtain ⟨c1,c2⟩ := hc
 have h18 : o = 1 ∨ o = 2 ∨ o = 3 ∨ o = 4 ∨ o = 5 ∨ o = 6 ∨ o = 7 ∨ o = 8 := by omega
 rcases h18 with rfl|rfl|rfl|rfl|rfl|rfl|rfl|rfl
 ·obtain rfl := c1 (by decide);exact rs1_c x n e rs ⟨b3,b4⟩ (b7 (by decide)) hr hl
 ·obtain rfl := c1 (by decide);exact rs2_c x n e rs ⟨b3,b4⟩ (b7 (by decide)) hr hl
 ·obtain rfl := c2 (by decide) (by decide);exact rs3_c x y e rs ⟨b3,b4⟩ ⟨b5,b6⟩ hr hl
 ·obtain rfl := c2 (by decide) (by decide);exact rs4_c x y e rs ⟨b3,b4⟩ ⟨b5,b6⟩ hr hl
 ·obtain rfl := c2 (by decide) (by decide);exact rs5_c x y e rs ⟨b3,b4⟩ ⟨b5,b6⟩ hr hl
 ·obtain rfl := c2 (by decide) (by decide);exact rs6_c x y e rs ⟨b3,b4⟩ ⟨b5,b6⟩ hr hl
 ·obtain rfl := c2 (by decide) (by decide);exact rs7_c x y e rs ⟨b3,b4⟩ ⟨b5,b6⟩ hr hl
 ·obtain rfl := c2 (by decide) (by decide);obtain rfl := c1 (by decide);exact rs8_c x e rs ⟨b3,b4⟩ hr hl
mutual
theorem rstmt_c {ts:List Int}(ht:typesOk ts = true):∀ (s:AL.Stmt) (d:Nat) (e:Int) (rs:List UInt8),d ≤ 4 → e + d = 4 → okS ts d s = true → RS rs → cntS s ≤ 10000 → (tS s).length + rs.length ≤ 90000 → RsC s e rs
 | .mk op x y n th el, d, e, rs, hd, he, h, hr, hc, hl => by
  simp only [okS] at h
  split at h
  ·rename_i h9
   simp only [Bool.and_eq_true,List.isEmpty_iff] at h
   obtain ⟨⟨rfl,rfl⟩,h⟩ := h
   exact rsS_c ht e rs h hr (by omega)
  ·rename_i h9
   cases d with
   | zero => cases h
   | succ d =>
    simp only [Bool.and_eq_true,decide_eq_true_eq] at h
    obtain ⟨⟨⟨⟨rfl,rfl,rfl⟩,h10⟩,h1⟩,h2⟩ := h
    simp only [cntS] at hc
    by_cases e9 : op = 9
    ·subst e9
     rw [tS9] at hl
     simp only [List.length_append,List.length_cons,List.length_nil] at hl
     exact rs9_c th el e rs (by omega) (by omega) (rstmts_c ht th d (e + 1) (125 :: 123 :: (tL el ++ 125 :: rs)) (by omega) (by omega) h1 (.inr ⟨_, rfl⟩) (by omega) (by simp only [List.length_append, List.length_cons]; omega))
      (rstmts_c ht el d (e + 1) (125 :: rs) (by omega) (by omega) h2 (.inr ⟨_,rfl⟩) (by omega) (by simp only [List.length_cons]; omega))
    ·obtain rfl : op = 10 := by omega
     have hel : el = [] := by
      cases el with
      | nil => rfl
      | cons a b => simp at h10
     subst hel
     rw [tS10] at hl
     simp only [List.length_append,List.length_cons,List.length_nil] at hl
     exact rs10_c th e rs (by omega) (by omega) (rstmts_c ht th d (e + 1) (125 :: rs) (by omega) (by omega) h1 (.inr ⟨_,rfl⟩) (by omega) (by simp only [List.length_cons]; omega))
theorem rstmts_c {ts:List Int}(ht:typesOk ts = true):∀ (l:List AL.Stmt) (d:Nat) (e:Int) (rs:List UInt8),d ≤ 4 → e + d = 4 → okL ts d l = true → RL rs → cntL l ≤ 10000 → (tL l).length + rs.length ≤ 90000 → RlC l e rs
 | [],d,e,rs,hd,he,h,hr,hc,hl => rl0_c e rs (by omega) hr (by omega)
 | s :: l, d, e, rs, hd, he, h, hr, hc, hl => by
  have h0 := h
  have hc0 := hc
  simp only [okL,Bool.and_eq_true] at h0
  simp only [cntL] at hc0
  refine rl_c s l e rs (by omega) hr hl hc (tS_ne ht h0.1) fun k hk q hq hrq => ?_
  cases k with
  | zero => exact rstmt_c ht s d e q hd he h0.1 hrq (by omega) hq
  | succ k => exact rall_c ht l d e hd he h0.2 (by omega) k (by simpa using hk) q hq hrq
theorem rall_c {ts:List Int}(ht:typesOk ts = true):∀ (l:List AL.Stmt) (d:Nat) (e:Int),d ≤ 4 → e + d = 4 → okL ts d l = true → cntL l ≤ 10000 → ∀ k,k < l.length → ∀ q,(tS l[k]!).length + q.length ≤ 90000 → RS q → RsC l[k]! e q
 | [],d,e,hd,he,h,hc,k,hk,q,hq,hr => absurd hk (by simp)
 | s :: l, d, e, hd, he, h, hc, k, hk, q, hq, hr => by
  simp only [okL,Bool.and_eq_true] at h
  simp only [cntL] at hc
  cases k with
  | zero => exact rstmt_c ht s d e q hd he h.1 hr (by omega) hq
  | succ k => exact rall_c ht l d e hd he h.2 (by omega) k (by simpa using hk) q hq hr
end
instance : CaT Tryz.prog 182:=⟨by kernel_rfl⟩
instance : CaT Tryz.prog 120:=⟨by kernel_rfl⟩
theorem indexC_c (s:List UInt8) (c:UInt8):PC Tryz.prog 182 [sv (bA s),sv (bA [c])] (fun r => r = iv (Lib.indexByte s c)):=by
 refine pc_of_calls fun w bad ι vals hv => ?_
 simp only [RdV,Rd] at hv
 obtain ⟨y,l,rfl,rfl,y2,l2,rfl,rfl,rfl⟩ := hv
 refine (Tryz.stringslite_Index_one (bA s) c w).mono ?_
 rintro e w' ⟨rfl,rfl⟩
 exact ⟨_,iv _,rfl,rfl,rfl,fun _ _ _ => by simp only [Rd]; rfl,Below.refl _ _⟩
theorem indexB_c (s:List UInt8) (c:UInt8):PC Tryz.prog 127 [sv (bA s),.v (.int .u8 (c.toNat:Int))] (fun r => r = iv (Lib.indexByte s c)):=by
 refine pc_of_calls fun w bad ι vals hv => ?_
 simp only [RdV,Rd] at hv
 obtain ⟨y,l,rfl,rfl,y2,l2,rfl,rfl,rfl⟩ := hv
 refine (Tryz.strings_IndexByte (bA s) (c.toNat : Int) w).mono ?_
 rintro e w' ⟨rfl,rfl⟩
 have e1 : (c.toNat : Int).toNat.toUInt8 = c := by simp
 rw [e1]
 exact ⟨_,iv _,rfl,rfl,rfl,fun _ _ _ => by simp only [Rd]; rfl,Below.refl _ _⟩
theorem indexByte_none (c:UInt8):∀ s:List UInt8,c ∉ s → Lib.indexByte s c = -1
 | [],_ => rfl
 | b :: a, h => by
  have hb : ¬ b = c := fun e => h (by simp [e])
  have ih := indexByte_none c a (fun q => h (List.mem_cons_of_mem _ q))
  rw [Lib.indexByte,ih]
  have h1 : (b == c) = false := by simpa using hb
  rw [h1]; rfl
theorem cutH0_c (a r:List UInt8) (c:UInt8) (h:c ∉ a) (hl:a.length + r.length ≤ 100000):PC Tryz.prog 120 [sv (bA (a ++ c :: r)),sv (bA [c])] (fun x => x = .tup [sv (bA a),sv (bA r),bv true]):=by
 have hi := indexC_c (a ++ c :: r) c
 rw [indexByte_at c r a h] at hi
 have z1 := bA_size (a ++ c :: r)
 have z2 : (bA [c]).size = 1 := rfl
 rw [List.length_append,List.length_cons] at z1
 have e1 : (bA (a ++ c :: r)).extract 0 a.length = bA a := by rw [bA_take,List.take_left]
 have e2 : (bA (a ++ c :: r)).extract (a.length + 1) (bA (a ++ c :: r)).size = bA r := by
  rw [bA_size,bA_drop,show a ++ c :: r = (a ++ [c]) ++ r by simp,show a.length + 1 = (a ++ [c]).length by simp,List.drop_left]
 refine pc_start Tryz.func120 Tryz.ntmps120 ?_
 repeat' (first|(apply id_rw;first|(apply rx_callE (k := 182);rfl;exact hi;(rfl);rfl)|(apply rx_sliceS;rfl;(rfl);(rfl);omega;rfl))|refine stpb ?_|refine stpd ?_|fail)
 refine rq_ret (l := [sv ((bA (a ++ c :: r)).extract 0 a.length),sv ((bA (a ++ c :: r)).extract (a.length + 1) (bA (a ++ c :: r)).size),bv true]) rfl ⟨?_,rfl⟩
 rw [e1,e2]; rfl
theorem cutM0_c (a:List UInt8) (c:UInt8) (h:c ∉ a):PC Tryz.prog 120 [sv (bA a),sv (bA [c])] (fun x => x = .tup [sv (bA a),sv (bA []),bv false]):=by
 have hi := indexC_c a c
 rw [indexByte_none c a h] at hi
 refine pc_start Tryz.func120 Tryz.ntmps120 ?_
 repeat' (first|(apply id_rw;(apply rx_callE (k := 182);rfl;exact hi;(rfl);rfl))|refine stpb ?_|fail)
 exact rq_ret rfl ⟨rfl,rfl⟩
theorem cutH_c (a r:List UInt8) (c:UInt8) (h:c ∉ a) (hl:a.length + r.length ≤ 100000):PC Tryz.prog 81 [sv (bA (a ++ c :: r)),sv (bA [c])] (fun x => x = .tup [sv (bA a),sv (bA r),bv true]):=by
 have hi := cutH0_c a r c h hl
 refine pc_start Tryz.func81 Tryz.ntmps81 ?_
 repeat' (first|(apply id_rw;(apply rx_callE (k := 120);rfl;exact hi;(rfl);rfl))|refine stpb ?_|fail)
 exact rq_ret rfl ⟨rfl,rfl⟩
theorem cutM_c (a:List UInt8) (c:UInt8) (h:c ∉ a):PC Tryz.prog 81 [sv (bA a),sv (bA [c])] (fun x => x = .tup [sv (bA a),sv (bA []),bv false]):=by
 have hi := cutM0_c a c h
 refine pc_start Tryz.func81 Tryz.ntmps81 ?_
 repeat' (first|(apply id_rw;(apply rx_callE (k := 120);rfl;exact hi;(rfl);rfl))|refine stpb ?_|fail)
 exact rq_ret rfl ⟨rfl,rfl⟩
theorem readNum_c (n:Int) (h:0 ≤ n ∧ n ≤ 9):PC Tryz.prog 86 [sv (bA [b8 (48 + n)])] (fun x => x = .tup [iv n,bv true]):=by
 have z1 : (bA [b8 (48 + n)]).size = 1 := rfl
 have hb := b8_nat (n := 48 + n) (by omega)
 have c0 : ((bA [b8 (48 + n)])[Int.toNat 0]!.toNat : Int) = 48 + n := hb
 have hne : ((bA [b8 (48 + n)]).toList == (⟨#[]⟩ : ByteArray).toList) = false := by
  show ((bA [b8 (48 + n)]).toList == (bA []).toList) = false
  rw [bA_toList,bA_toList]; rfl
 refine pc_start Tryz.func86 Tryz.ntmps86 ?_
 repeat' (first|(apply id_rw;(apply rx_sbin;rfl;rfl;(rfl);rfl))|refine stpb ?_|fail)
 refine aw_loopA (σ := Nat × Int) [0,19] [] (fun k => [(20,iv (k.1 : Int)),(4,iv k.2)]) (fun k => []) (fun k => (k.1 = 0 ∧ k.2 = 0) ∨ (k.1 = 1 ∧ k.2 = n)) (fun k => 1 - k.1) (0,0) (.inl ⟨rfl,rfl⟩) ?_
 rintro ⟨k,m⟩ hk
 dsimp only at hk ⊢
 rcases hk with ⟨rfl,rfl⟩ | ⟨rfl,rfl⟩
 ·have c1 : ((bA [b8 (48 + n)])[((0 : Nat) : Int).toNat]!.toNat : Int) = 48 + n := hb
  repeat' (first|(apply id_rw;first|(apply rx_min (r := n);rfl;rfl;(rw [Int.min_eq_right (by omega)]; omega);rfl)|(apply rx_indexS;rfl;rfl;omega;rfl)|(apply rx_subU;rfl;rfl;omega;rfl))|refine stpb ?_|(refine stp2 ?_ ?_ <;> intro hc hq <;> try (exfalso;omega))|(refine stp3 ?_ ?_ <;> intro hg hq <;> try (exfalso;omega))|fail)
  (refine ex3 (1,n) (Le.renA []) ?_ ?_)
  ·exact .inr ⟨rfl,rfl⟩
  ·dsimp only;omega
 ·repeat' (first | refine stpb ?_|fail)
  exact rq_ret rfl ⟨rfl,rfl⟩
theorem tyB_ix {t:Int}(h:1 ≤ t ∧ t ≤ 4):Lib.indexByte [105,98,114,109] (tyB t) = t - 1:=by
 have h14 : t = 1 ∨ t = 2 ∨ t = 3 ∨ t = 4 := by omega
 rcases h14 with rfl|rfl|rfl|rfl <;> rfl
theorem tyB_no (l:List Int):(58:UInt8) ∉ l.map tyB:=by
 simp only [List.mem_map,not_exists,not_and]
 exact fun t _ e => (tyB_ne (t := t)).1 e
theorem bA_get (l:List UInt8) (k:Nat) (h:k < l.length):(bA l)[k]! = l[k]!:=by
 rw [getElem!_pos (bA l) k (by rw [bA_size]; exact h),getElem!_pos l k h]; rfl
theorem parse_c (p:Prg) (hv:validF p = true):PC Tryz.prog 83 [sv (bA (tP p))] (fun r => r = .tup [aPrg p,bv true]):=by
 have hpt := progText_c p hv
 have hv0 := hv
 unfold validF at hv
 simp only [Bool.and_eq_true,decide_eq_true_eq] at hv
 obtain ⟨⟨h1,h2⟩,h3⟩ := hv
 have htl := typesOk_len h1
 have hval := validI_c p (by omega) (by omega)
 rw [hv0] at hval
 have hsz := textL_size p.body
 have htz := tP_size hv0
 have hlz : (tL p.body).length = (textL p.body).size := rfl
 have hcut := cutH_c (p.types.map tyB) (tL p.body ++ []) 58 (tyB_no _) (by rw [List.length_map,List.append_nil]; omega)
 have eT : p.types.map tyB ++ 58 :: (tL p.body ++ []) = tP p := by rw [List.append_nil]; rfl
 rw [eT] at hcut
 have z1 := bA_size (tP p)
 have z2 : (bA (p.types.map tyB)).size = p.types.length := by rw [bA_size,List.length_map]
 have hst := rstmts_c h1 p.body 4 0 [] (by omega) (by omega) h2 (.inl rfl) (by omega) (by rw [List.length_nil]; omega)
 unfold RlC at hst
 have hsf : ((bA (tP p)).toList == (bA (tP p)).toList) = true := beq_self_eq_true _
 have hse : ((bA []).toList == (⟨#[]⟩ : ByteArray).toList) = true := beq_self_eq_true (bA []).toList
 refine pc_start Tryz.func83 Tryz.ntmps83 ?_
 repeat' (first|(apply id_rw;(apply rx_callE (k := 81);rfl;exact hcut;(rfl);rfl))|refine stpb ?_|(refine stp2 ?_ ?_ <;> intro hc hq <;> try (exfalso;omega))|fail)
 all_goals try (exfalso;omega)
 refine AW.le ?_ (Le.nilCell (i := 1) 1 [] rfl (by decide) (by decide))
 refine aw_loopA (σ := Nat) [0,2,4,5,7,21] [0] (fun k => [(22,iv (k : Int))]) (fun k => [(1,some [.own 2 0 k 1,.v (.slice none 0 0)]),(2,some (flat cI (p.types.take k)))]) (fun k => k ≤ p.types.length) (fun k => p.types.length - k) (0) (Nat.zero_le _) ?_
 intro k hk
 have hxl : (p.types.take k).length = k := by rw [List.length_take]; omega
 by_cases hkn : k < p.types.length
 ·have ht := typesOk_at h1 k hkn
  have hix := indexB_c [105,98,114,109] (tyB p.types[k]!)
  rw [tyB_ix ht] at hix
  have hge : ((bA (p.types.map tyB))[(k : Int).toNat]!.toNat : Int) = (tyB p.types[k]!).toNat := by
   rw [Int.toNat_natCast,bA_get _ _ (by rw [List.length_map]; exact hkn),getB _ _ (by rw [List.length_map]; exact hkn),List.getElem_map,getB _ _ hkn]
  rw [← hge] at hix
  have htk := take_succB p.types k hkn
  have ek : 1 + (p.types[k]! - 1) = p.types[k]! := by omega
  repeat' (first|(apply id_rw;first|(apply rx_callE (k := 127);rfl;exact hix;(rfl);rfl)|(apply rx_indexS;rfl;rfl;omega;rfl))|refine stpb ?_|(refine stp2 ?_ ?_ <;> intro hc hq <;> try (exfalso;omega))|refine stpd ?_|fail)
  rw [ek,← htk]
  (refine ex3 (k + 1) (Le.renA [(0,0),(1,1),(2,4)]) ?_ ?_)
  ·exact hkn
  ·omega
 ·repeat' (first | (apply id_rw; (with_reducible apply rw_stop (d := 36))) | refine stpb ?_ | (refine stp2 ?_ ?_ <;> intro hc hq <;> try (exfalso; omega))|fail)
  have hke : k = p.types.length := by omega
  subst hke
  refine rw_go ?_
  rw [List.take_length]
  refine rw_le ?_ (Le.frzC (j := 1) (i := 2) [] rfl rfl (by decide))
  repeat' (first|(apply id_rw;first|(apply rx_rstmts (l := p.body) (e := 0) (rs := []);rfl;rfl;rfl;exact hst;rfl;rfl)|(apply rx_callE (k := 17);rfl;exact hval;exact Pur.pf;rfl)|(apply rx_callE (k := 48);rfl;exact hpt;exact Pur.pf;rfl)|(apply rx_sbin;rfl;rfl;(rfl);rfl))|refine stpb ?_|(refine stp2 ?_ ?_ <;> intro hc hq <;> try (exfalso;omega))|(refine stp3 ?_ ?_ <;> intro hg hq <;> try (exfalso;omega))|fail)
  all_goals first
   | (exfalso;rw [hsf] at *; contradiction)
   | (exfalso;rw [hse] at *; contradiction)
   | exact rq_ret (l := [aPrg p,bv true]) rfl ⟨rfl,by exact Pur.pf⟩
end Go.Proofs.YtjnhlgpbojggnaaGreatDoor
namespace Go.Proofs.YtjnhlgpbojggnaaGreatDoor
open Go Go.AL Go.RowKit
theorem ScI.start (W:World) (L:List ByteArray):ScI 63 5 9 W W.heap.size (W.heap.size + 1) (W.heap.size + 2) L ⟨[],[]⟩ []
  (((W.alloc (Obj.cells #[Value.slice none 0 0,Value.slice none 0 0] 60)).alloc (Obj.cells #[Value.pointer none,Value.slice none 0 0] 63)).alloc (Obj.cells (List.map Value.string L).toArray 9)) := by
 generalize hA : (Obj.cells #[Value.slice none 0 0,Value.slice none 0 0] 60) = A
 generalize hB : (Obj.cells #[Value.pointer none,Value.slice none 0 0] 63) = B
 generalize hC : (Obj.cells (List.map Value.string L).toArray 9) = C
 have s1 : (W.alloc A).heap.size = W.heap.size + 1 := by simp
 have s2 : ((W.alloc A).alloc B).heap.size = W.heap.size + 2 := by simp
 have hx : (((W.alloc A).alloc B).alloc C).heap[W.heap.size]? = some A := by
  rw [Below.heap_alloc _ _ _ (by omega),Below.heap_alloc _ _ _ (by omega)]; exact World.alloc_heap_new W A
 have ho : (((W.alloc A).alloc B).alloc C).heap[W.heap.size + 1]? = some B := by
  rw [Below.heap_alloc _ _ _ (by omega),← s1]; exact World.alloc_heap_new _ B
 have hl : (((W.alloc A).alloc B).alloc C).heap[W.heap.size + 2]? = some C := by
  rw [← s2]; exact World.alloc_heap_new _ C
 subst hA hB hC
 have hv : ∀ q, Xb (W.heap.size + 1) (((W.alloc (Obj.cells #[Value.slice none 0 0, Value.slice none 0 0] 60)).alloc (Obj.cells #[Value.pointer none, Value.slice none 0 0] 63)).alloc (Obj.cells (List.map Value.string L).toArray 9)) q → q = W.heap.size + 1 := by
  rintro q (h | ⟨v,h1,h2⟩)
  ·exact h
  ·rw [Lib.cell_of_heap ho] at h1
   injection h1 with h1
   subst h1
   cases h2
 refine ⟨(((Below.refl _ W).alloc (Nat.le_refl _) _).alloc (by omega) _).alloc (by omega) _,Nat.le_refl _,Nat.le_succ _,by omega,by omega,by omega,.inl ⟨Nat.le_succ _,_,ho,World.ownsRowF_nil _ _ _ _,by simp [Value.ownBlock]⟩,hl,fun h => by have := hv _ h;omega,fun h => by have := hv _ h;omega,⟨_,_,hx,Nat.le_refl _,?_⟩⟩
 have h0 : ∀ o, o < 2 → (((W.alloc (Obj.cells #[Value.slice none 0 0, Value.slice none 0 0] 60)).alloc (Obj.cells #[Value.pointer none, Value.slice none 0 0] 63)).alloc (Obj.cells (List.map Value.string L).toArray 9)).cell? ⟨W.heap.size, o, none⟩ = some (.slice none 0 0) := fun o h => by
  rw [Lib.cell_of_heap hx]
  match o,h with
  | 0,_ => rfl
  | 1,_ => rfl
 simp only [RdC]
 exact ⟨⟨_,h0 0 (by decide),rfl,by show Rd _ _ _ (.imm 0 []) _; simp only [Rd]; exact ⟨none,0,rfl,.inl trivial⟩⟩,⟨_,h0 1 (by decide),rfl,by show Rd _ _ _ (.imm 0 []) _; simp only [Rd]; exact ⟨none,0,rfl,.inl trivial⟩⟩,trivial⟩
theorem runScript_raw (s:ByteArray) (L:List ByteArray) (W:World) (hs:s.size ≤ 20000)
 (pF : Nat → Prg) (oF : Nat → List UInt8) (h0 : pF 0 = ⟨[],[]⟩) (h00 : oF 0 = []) (hL : L.length ≤ 200) (hO : ∀ k,k < L.length → L[k]! ≠ ⟨#[]⟩ → (oF k).length ≤ 40000) (hO3 : ∀ k,k ≤ L.length → (oF k).length ≤ 100000000)
 (hstep : ∀ k, k < L.length → (L[k]! = ⟨#[]⟩ → pF (k + 1) = pF k ∧ oF (k + 1) = oF k) ∧ (L[k]! ≠ ⟨#[]⟩ → ∃ t : ByteArray, oF (k + 1) = oF k ++ t.data.toList ∧
  MC Tryz.prog 47 [.optr 0 0,sv L[k]!] [(0,some [sl cI (pF k).types,sl cStmt (pF k).body])] 1 (fun _ : Unit => True) (fun _ => sv t) (fun _ => [(0,some [sl cI (pF (k + 1)).types,sl cStmt (pF (k + 1)).body])])))
 (hsplit : ∀ w,Calls Tryz.prog 43 #[.string s,.string ⟨#[10]⟩] w fun e w' => e = .returned (.slice (some ⟨w.heap.size,0,none⟩) L.length L.length) ∧ w' = w.alloc (.cells (L.map Value.string).toArray 9)) :
 Calls Tryz.prog 13 #[.string s] W fun e w' => e = .returned (.string ⟨(oF L.length).toArray⟩) ∧ Below W.heap.size W w' := by
 have e20 : ∀ args w,(callFunc 42 args).run Tryz.prog w = .ok (.enter 42 args) w := enters_of Tryz.func42 (by kernel_rfl) rfl
 have e21 : ∀ args w,(callFunc 43 args).run Tryz.prog w = .ok (.enter 43 args) w := enters_of Tryz.func43 (by kernel_rfl) rfl
 have e22 : ∀ args w,(callFunc 44 args).run Tryz.prog w = .ok (.enter 44 args) w := enters_of Tryz.func44 (by kernel_rfl) rfl
 have e23 : ∀ args w,(callFunc 45 args).run Tryz.prog w = .ok (.enter 45 args) w := enters_of Tryz.func45 (by kernel_rfl) rfl
 have e24 : ∀ args w,(callFunc 46 args).run Tryz.prog w = .ok (.enter 46 args) w := enters_of Tryz.func46 (by kernel_rfl) rfl
 have e25 : ∀ args w,(callFunc 47 args).run Tryz.prog w = .ok (.enter 47 args) w := enters_of Tryz.func47 (by kernel_rfl) rfl
 have hs1 : ¬ ((s.size : Int) > 20000) := by omega
 have hs2 : ¬ ((20000 : Int) < (s.size : Int)) := by omega
 have mixed : Tryz.prog.follows .mixedOrders = true := by kernel_rfl
 go_enter Tryz.func13,Tryz.ntmps13
 go_wp2_with (go_at_fn 43;refine (hsplit _).mono ?_; rintro e w' ⟨rfl,hw⟩; rw [hw])
 have I0 := ScI.start W L
 go_loopg [16] L.length (fun g s16 wr => ∃ k : Nat,s16 = .int .i64 k ∧ k ≤ L.length ∧ g = L.length - k ∧ ScI 63 5 9 W W.heap.size (W.heap.size + 1) (W.heap.size + 2) L (pF k) (oF k) wr)
 case atStart => exact ⟨0,rfl,Nat.zero_le _,rfl,by rw [h0,h00]; exact I0⟩
 case round =>
  obtain ⟨k,rfl,hk,rfl,I⟩ := hrel
  by_cases hlt : k < L.length
  ·have hlz : (k : Int) < (L.length : Int) := by omega
   have hlen' := hO k hlt
   have h200 : ¬ ((k : Int) ≥ 200) := by omega
   have h201 : ¬ (200 ≤ (k : Int)) := by omega
   obtain ⟨hst1,hst2⟩ := hstep k hlt
   have hget : L[k]? = some L[k]! := by rw [List.getElem?_eq_getElem hlt,getB _ _ hlt]
   generalize L[k]! = x at hst1 hst2 hget hlen'
   have hc : wr.cell? ⟨W.heap.size + 2,k,none⟩ = some (.string x) := by rw [Lib.cell_of_heap I.ln,List.getElem?_toArray,List.getElem?_map,hget]; rfl
   by_cases he : x = ⟨#[]⟩
   ·have hE : x.toList.isEmpty = true := by rw [he, Lib.toList_data]; rfl
    have hE2 : (x == ⟨#[]⟩) = true := by rw [he]; rfl
    obtain ⟨hp,ho⟩ := hst1 he
    go_wp2
    go_roundg (L.length - (k + 1))
    case measure => omega
    case rel => exact ⟨k + 1,rfl,by omega,by omega,by rw [hp,ho]; exact I⟩
   ·have hE : x.toList.isEmpty = false := by
     rw [Lib.toList_data]
     cases hx : x.data.toList with
     | nil => exact absurd (by cases x with|mk d => cases d with|mk l => simp at hx;rw [hx]) he
     | cons _ _ => rfl
    have hlen : (oF k).length ≤ 40000 := hlen' he
    have h400 : ¬ (((oF k).length : Int) > 40000) := by omega
    have h401 : ¬ (40000 < ((oF k).length : Int)) := by omega
    obtain ⟨t,ho,hdo⟩ := hst2 he
    go_wp2_with (first|(go_at_fn 44;refine (Tryz.Builder_Len_f W.heap.size (W.heap.size + 1) _ _ I.bd).mono ?_; rintro e w1 ⟨rfl,rfl⟩; rw [Lib.byteCells_length])|(go_at_fn 47;refine (I.do hdo).mono ?_; rintro e w2 ⟨rfl,I2⟩))
    have hO2 := hO3 (k + 1) (by omega)
    rw [ho,List.length_append] at hO2
    have ht : t.data.toList.length = t.size := by rw [Array.length_toList]; rfl
    refine (ScI.write (P := Tryz.prog) (ρ := Tryz.lays156_ren) { Tryz.lays156 with } Tryz.Builder_Extra_156 I2 t (by omega)).mono ?_
    rintro e w3 ⟨rfl,I3⟩
    go_wp2
    go_roundg (L.length - (k + 1))
    case measure => omega
    case rel => exact ⟨k + 1,rfl,by omega,by omega,by rw [ho]; exact I3⟩
  ·have hlz : ¬ ((k : Int) < (L.length : Int)) := by omega
   obtain rfl : k = L.length := by omega
   go_wp2_with (go_at_fn 45;refine (Tryz.Builder_String_any_f W.heap.size (W.heap.size + 1) (oF L.length) _ I.bd I.bw.size).mono ?_; rintro e w1 ⟨rfl,hw1⟩)
   go_ret
   exact ⟨rfl,I.bw.trans hw1.2⟩
def lns (s : ByteArray) : List ByteArray := Lib.splitB ⟨#[10]⟩ 0 (Lib.countB s ⟨#[10]⟩) s
theorem runScript_c (s:ByteArray) (hs:s.size ≤ 20000) (pF:Nat → Prg) (oF:Nat → List UInt8) (h0:pF 0 = ⟨[],[]⟩) (h00:oF 0 = []) (hL:(lns s).length ≤ 200) (hO:∀ k,k < (lns s).length → (lns s)[k]! ≠ ⟨#[]⟩ → (oF k).length ≤ 40000) (hO3:∀ k,k ≤ (lns s).length → (oF k).length ≤ 100000000)
  (hstep : ∀ k, k < (lns s).length → ((lns s)[k]! = ⟨#[]⟩ → pF (k + 1) = pF k ∧ oF (k + 1) = oF k) ∧ ((lns s)[k]! ≠ ⟨#[]⟩ → ∃ t : ByteArray, oF (k + 1) = oF k ++ t.data.toList ∧
   MC Tryz.prog 47 [.optr 0 0,sv (lns s)[k]!] [(0,some [sl cI (pF k).types,sl cStmt (pF k).body])] 1 (fun _ : Unit => True) (fun _ => sv t) (fun _ => [(0,some [sl cI (pF (k + 1)).types,sl cStmt (pF (k + 1)).body])]))) :
  PC Tryz.prog 13 [sv s] (fun r => r = sv ⟨(oF (lns s).length).toArray⟩) := by
 refine pc_of_calls fun w bad ι vals hv => ?_
 simp only [RdV,Rd] at hv
 obtain ⟨y,l,rfl,rfl,rfl⟩ := hv
 refine (runScript_raw s (lns s) w hs pF oF h0 h00 hL hO hO3 hstep (fun w' => Split_one Tryz.lays146 (by kernel_rfl) s 10 w' (by omega))).mono ?_
 rintro e w' ⟨rfl,hb⟩
 exact ⟨_,sv _,rfl,rfl,rfl,fun _ _ _ => by simp only [Rd],hb⟩
def DoC (p : Prg) (s t : List UInt8) (q : Prg) : Prop :=
 MC Tryz.prog 47 [.optr 0 0,sv (bA s)] [(0,some [sl cI p.types,sl cStmt p.body])] 1 (fun _ : Unit => True) (fun _ => sv (bA t)) (fun _ => [(0,some [sl cI q.types,sl cStmt q.body])])
theorem lns2 {a b:List UInt8}(ha:(10:UInt8) ∉ a) (hb:(10:UInt8) ∉ b):lns (bA (a ++ 10 :: (b ++ [10]))) = [bA a,bA b,⟨#[]⟩]:=by
 unfold lns
 rw [splitB_of]
 show (Lib.split (a ++ 10 :: (b ++ [10])) [10]).map _ = _
 rw [split2 ha hb]; rfl
theorem lns3 {a b c:List UInt8}(ha:(10:UInt8) ∉ a) (hb:(10:UInt8) ∉ b) (hc:(10:UInt8) ∉ c):lns (bA (a ++ 10 :: (b ++ 10 :: (c ++ [10])))) = [bA a,bA b,bA c,⟨#[]⟩]:=by
 unfold lns
 rw [splitB_of]
 show (Lib.split (a ++ 10 :: (b ++ 10 :: (c ++ [10]))) [10]).map _ = _
 rw [split3 ha hb hc]; rfl
theorem bA_ne {l:List UInt8}(h:l ≠ []):bA l ≠ ⟨#[]⟩ := fun e => h (bA_inj (m := []) e)
theorem script2L_c {a b t u:List UInt8}{p q:Prg}(ha:(10:UInt8) ∉ a) (hb:(10:UInt8) ∉ b) (na:a ≠ []) (nb:b ≠ []) (h1:DoC ⟨[],[]⟩ a t p) (h2:DoC p b u q) (hl:a.length + b.length ≤ 10000) (ht:t.length ≤ 40000) (hu:u.length ≤ 50000000) :
  PC Tryz.prog 13 [sv (bA (a ++ 10 :: (b ++ [10])))] (fun r => r = sv (bA (t ++ u))) := by
 have hL := lns2 ha hb
 have h := runScript_c (bA (a ++ 10 :: (b ++ [10]))) (by rw [bA_size]; simp only [List.length_append, List.length_cons, List.length_nil]; omega) (fun k => match k with | 0 => ⟨[], []⟩ | 1 => p | _ => q) (fun k => match k with | 0 => [] | 1 => t | _ => t ++ u) rfl rfl (by rw [hL]; simp)
  (fun k hk hne => by
   rw [hL] at hk hne
   match k,hk,hne with
   | 0,_,_ => exact Nat.zero_le _
   | 1,_,_ => exact ht
   | 2,_,hne => exact absurd rfl hne
   | _ + 3,hk,_ => simp at hk;omega)
  (fun k _ => by
   match k with
   | 0 => exact Nat.zero_le _
   | 1 => show t.length ≤ _; omega
   | _ + 2 => show (t ++ u).length ≤ _; rw [List.length_append]; omega)
  (fun k hk => by
   rw [hL] at hk ⊢
   match k,hk with
   | 0,_ => exact ⟨fun e => absurd e (bA_ne na),fun _ => ⟨bA t,by simp [bA_data],h1⟩⟩
   | 1,_ => exact ⟨fun e => absurd e (bA_ne nb),fun _ => ⟨bA u,by simp [bA_data],h2⟩⟩
   | 2,_ => exact ⟨fun _ => ⟨rfl,rfl⟩,fun e => absurd rfl e⟩
   | _ + 3,hk => simp at hk;omega)
 rw [hL] at h
 exact h
theorem script2_c {a b t u:List UInt8}{p q:Prg}(ha:(10:UInt8) ∉ a) (hb:(10:UInt8) ∉ b) (na:a ≠ []) (nb:b ≠ []) (h1:DoC ⟨[],[]⟩ a t p) (h2:DoC p b u q) (hl:a.length + b.length ≤ 10000) (ht:t.length + u.length ≤ 40000) :
  PC Tryz.prog 13 [sv (bA (a ++ 10 :: (b ++ [10])))] (fun r => r = sv (bA (t ++ u))) := script2L_c ha hb na nb h1 h2 hl (by omega) (by omega)
theorem script3_c {a b c t u v:List UInt8}{p q o:Prg}(ha:(10:UInt8) ∉ a) (hb:(10:UInt8) ∉ b) (hc:(10:UInt8) ∉ c) (na:a ≠ []) (nb:b ≠ []) (nc:c ≠ []) (h1:DoC ⟨[],[]⟩ a t p) (h2:DoC p b u q) (h3:DoC q c v o) (hl:a.length + b.length + c.length ≤ 10000) (ht:t.length + u.length + v.length ≤ 40000) :
  PC Tryz.prog 13 [sv (bA (a ++ 10 :: (b ++ 10 :: (c ++ [10]))))] (fun r => r = sv (bA ((t ++ u) ++ v))) := by
 have hL := lns3 ha hb hc
 have h := runScript_c (bA (a ++ 10 :: (b ++ 10 :: (c ++ [10])))) (by rw [bA_size]; simp only [List.length_append, List.length_cons, List.length_nil]; omega) (fun k => match k with | 0 => ⟨[], []⟩ | 1 => p | 2 => q | _ => o) (fun k => match k with | 0 => [] | 1 => t | 2 => t ++ u | _ => (t ++ u) ++ v) rfl rfl (by rw [hL]; simp)
  (fun k hk _ => by
   rw [hL] at hk
   match k,hk with
   | 0,_ => exact Nat.zero_le _
   | 1,_ => show t.length ≤ _; omega
   | 2,_ => show (t ++ u).length ≤ _; rw [List.length_append]; omega
   | _ + 3,_ => show ((t ++ u) ++ v).length ≤ _; rw [List.length_append,List.length_append]; omega)
  (fun k _ => by
   match k with
   | 0 => exact Nat.zero_le _
   | 1 => show t.length ≤ _; omega
   | 2 => show (t ++ u).length ≤ _; rw [List.length_append]; omega
   | _ + 3 => show ((t ++ u) ++ v).length ≤ _; rw [List.length_append,List.length_append]; omega)
  (fun k hk => by
   rw [hL] at hk ⊢
   match k,hk with
   | 0,_ => exact ⟨fun e => absurd e (bA_ne na),fun _ => ⟨bA t,by simp [bA_data],h1⟩⟩
   | 1,_ => exact ⟨fun e => absurd e (bA_ne nb),fun _ => ⟨bA u,by simp [bA_data],h2⟩⟩
   | 2,_ => exact ⟨fun e => absurd e (bA_ne nc),fun _ => ⟨bA v,by simp [bA_data],h3⟩⟩
   | 3,_ => exact ⟨fun _ => ⟨rfl,rfl⟩,fun e => absurd rfl e⟩
   | _ + 4,hk => simp at hk;omega)
 rw [hL] at h
 exact h
end Go.Proofs.YtjnhlgpbojggnaaGreatDoor
namespace Go.Proofs.YtjnhlgpbojggnaaGreatDoor
open Go.AL Go.RowKit
variable {N : Nat} {Q : Exit → AS → Prop} {all : Array Oper} {rest : List Oper} {tsl : List (Nat × AV)} {hsl : List (Nat × Option (List AV))} {nidl : Nat} {z0 : Lo} {md : Md} {d : Nat} {ty : TypeId} {pos : String} {af : Array Edge} {tys : Array TypeId}
theorem sb_lt {l m:List UInt8}{b:Bool}(h:(l == m) = b):sbin .eql (bA l) (bA m) = some (.bool b) := by simp only [sbin,bA_toList,h]
theorem line_c (l:List UInt8) (h:l.length ≤ 1000000):PC Tryz.prog 42 [sv (bA l)] (fun r => r = sv (bA (l ++ [10]))):=by
 have z := bA_size l
 refine pc_start Tryz.func42 Tryz.ntmps42 ?_
 repeat' (first|(apply id_rw;(apply rx_sbin;rfl;rfl;(exact sadd_ok (by (simp only [ByteArray.size_append,bsz_lit,List.length_cons,List.length_nil,letF_size,decF_size,bytF_size] <;> omega)));rfl))|refine stpb ?_|fail)
 exact rq_ret rfl ⟨congrArg sv (bA_app l [10]),rfl⟩
theorem rx_xch {p q:Prg}{x0 x1 x2:Operand}{i0:Nat}(ha0:ev (lk tsl) x0 = some (.optr i0 0)) (ha1:ev (lk tsl) x1 = some (aPrg q)) (ha2:ev (lk tsl) x2 = some (bv true)) (hH0:lkH hsl i0 = some ([sl cI p.types,sl cStmt p.body])) (hmc:MC Tryz.prog 84 [.optr 0 0,aPrg q,bv true] [(0,some ([sl cI p.types,sl cStmt p.body]))] 1 (fun _:Unit => True) (fun _ => sv (bA [111,107,10])) (fun _ => [(0,some ([sl cI q.types,sl cStmt q.body]))])) (hM:Nat.ble (nidl + 0) big = true) (hN:Nat.blt d N = true){md':Md}[hmd:MdA md (rOs [x0,x1,x2] ++ [.inr i0]) (List.map Sum.inr (List.map Prod.fst ([(i0,some ([sl cI q.types,sl cStmt q.body]))]:List (Nat × Option (List AV)))) ++ [.inl d]) md'] (kk:RW Tryz.prog N all Q md' rest ⟨(d,sv (bA [111,107,10])) :: tsl,wrH hsl [(i0,some ([sl cI q.types,sl cStmt q.body]))],nidl + 0,z0⟩):RW Tryz.prog N all Q md (⟨some d,.call ⟨.value (.func 84),#[x0,x1,x2],tys⟩,ty,pos,af,none⟩ :: rest) ⟨tsl,hsl,nidl,z0⟩:=by
 exact rx_mcallA (l := [x0,x1,x2]) [i0] 1 [(i0,some ([sl cI q.types,sl cStmt q.body]))] hmc (avs := [.optr i0 0,aPrg q,bv true]) (by simp only [evL,ha0,ha1,ha2]) rfl hM hN (md' := md') (hmd := hmd) kk
theorem xch_c (p q:Prg):MC Tryz.prog 84 [.optr 0 0,aPrg q,bv true] [(0,some ([sl cI p.types,sl cStmt p.body]))] 1 (fun _:Unit => True) (fun _ => sv (bA [111,107,10])) (fun _ => [(0,some ([sl cI q.types,sl cStmt q.body]))]):=by
 have hl := line_c [111,107] (by decide)
 refine mc_start Tryz.func84 Tryz.ntmps84 ?_
 repeat' (first|(apply id_rw;first|(apply rx_store;rfl;rfl;rfl;rfl;rfl;(case hl => (simp;done));exact (rfl:_=[_,_]))|(apply rx_callE (k := 42);rfl;exact hl;(rfl);rfl))|refine stpb ?_|fail)
 (refine rq_ret rfl ?_; refine mc_ret () trivial ?_ ⟨sE ?_,trivial⟩)
 ·rfl
 ·rfl
theorem rx_alone {s t:List UInt8}{p q:Prg}{x0 x1:Operand}{i0:Nat}(ha0:ev (lk tsl) x0 = some (.optr i0 0)) (ha1:ev (lk tsl) x1 = some (sv (bA s))) (hH0:lkH hsl i0 = some ([sl cI p.types,sl cStmt p.body])) (hmc:MC Tryz.prog 82 [.optr 0 0,sv (bA s)] [(0,some ([sl cI p.types,sl cStmt p.body]))] 1 (fun _:Unit => True) (fun _ => sv (bA t)) (fun _ => [(0,some ([sl cI q.types,sl cStmt q.body]))])) (hM:Nat.ble (nidl + 0) big = true) (hN:Nat.blt d N = true){md':Md}[hmd:MdA md (rOs [x0,x1] ++ [.inr i0]) (List.map Sum.inr (List.map Prod.fst ([(i0,some ([sl cI q.types,sl cStmt q.body]))]:List (Nat × Option (List AV)))) ++ [.inl d]) md'] (kk:RW Tryz.prog N all Q md' rest ⟨(d,sv (bA t)) :: tsl,wrH hsl [(i0,some ([sl cI q.types,sl cStmt q.body]))],nidl + 0,z0⟩):RW Tryz.prog N all Q md (⟨some d,.call ⟨.value (.func 82),#[x0,x1],tys⟩,ty,pos,af,none⟩ :: rest) ⟨tsl,hsl,nidl,z0⟩:=by
 exact rx_mcallA (l := [x0,x1]) [i0] 1 [(i0,some ([sl cI q.types,sl cStmt q.body]))] hmc (avs := [.optr i0 0,sv (bA s)]) (by simp only [evL,ha0,ha1]) rfl hM hN (md' := md') (hmd := hmd) kk
theorem rx_numb {s t:List UInt8}{n:Int}{p q:Prg}{x0 x1 x2:Operand}{i0:Nat}(ha0:ev (lk tsl) x0 = some (.optr i0 0)) (ha1:ev (lk tsl) x1 = some (sv (bA s))) (ha2:ev (lk tsl) x2 = some (iv n)) (hH0:lkH hsl i0 = some ([sl cI p.types,sl cStmt p.body])) (hmc:MC Tryz.prog 87 [.optr 0 0,sv (bA s),iv n] [(0,some ([sl cI p.types,sl cStmt p.body]))] 1 (fun _:Unit => True) (fun _ => sv (bA t)) (fun _ => [(0,some ([sl cI q.types,sl cStmt q.body]))])) (hM:Nat.ble (nidl + 0) big = true) (hN:Nat.blt d N = true){md':Md}[hmd:MdA md (rOs [x0,x1,x2] ++ [.inr i0]) (List.map Sum.inr (List.map Prod.fst ([(i0,some ([sl cI q.types,sl cStmt q.body]))]:List (Nat × Option (List AV)))) ++ [.inl d]) md'] (kk:RW Tryz.prog N all Q md' rest ⟨(d,sv (bA t)) :: tsl,wrH hsl [(i0,some ([sl cI q.types,sl cStmt q.body]))],nidl + 0,z0⟩):RW Tryz.prog N all Q md (⟨some d,.call ⟨.value (.func 87),#[x0,x1,x2],tys⟩,ty,pos,af,none⟩ :: rest) ⟨tsl,hsl,nidl,z0⟩:=by
 exact rx_mcallA (l := [x0,x1,x2]) [i0] 1 [(i0,some ([sl cI q.types,sl cStmt q.body]))] hmc (avs := [.optr i0 0,sv (bA s),iv n]) (by simp only [evL,ha0,ha1,ha2]) rfl hM hN (md' := md') (hmd := hmd) kk
theorem aloneShow_c (p:Prg) (hv:validF p = true):MC Tryz.prog 82 [.optr 0 0,sv (bA [115,104,111,119])] [(0,some [sl cI p.types,sl cStmt p.body])] 1 (fun _:Unit => True) (fun _ => sv (bA (tP p ++ [10]))) (fun _ => [(0,some [sl cI p.types,sl cStmt p.body])]):=by
 have ht := progText_c p hv
 have hl := line_c (tP p) (by have := tP_size hv;omega)
 refine mc_start Tryz.func82 Tryz.ntmps82 ?_
 repeat' (first|(apply id_rw;first|(apply rx_sbin;rfl;rfl;(exact sb_lt (b := true) (by decide));rfl)|(apply rx_callE (k := 48);rfl;exact ht;exact Pur.pf;rfl)|(apply rx_callE (k := 42);rfl;exact hl;(rfl);rfl))|refine stpb ?_|fail)
 (refine rq_ret rfl ?_; refine mc_ret () trivial ?_ ⟨sE ?_,trivial⟩)
 ·rfl
 ·rfl
theorem doAlone_c (s t:List UInt8) (p q:Prg) (h32:(32:UInt8) ∉ s) (h:MC Tryz.prog 82 [.optr 0 0,sv (bA s)] [(0,some [sl cI p.types,sl cStmt p.body])] 1 (fun _:Unit => True) (fun _ => sv (bA (t))) (fun _ => [(0,some [sl cI q.types,sl cStmt q.body])])):DoC p s t q:=by
 have hc := cutM_c s 32 h32
 unfold DoC
 refine mc_start Tryz.func47 Tryz.ntmps47 ?_
 repeat' (first|(apply id_rw;first|(apply rx_callE (k := 81);rfl;exact hc;(rfl);rfl)|(apply rx_alone (s := s) (t := t) (p := p) (q := q);rfl;rfl;rfl;exact h;rfl;rfl))|refine stpb ?_|fail)
 (refine rq_ret rfl ?_; refine mc_ret () trivial ?_ ⟨sE ?_,trivial⟩)
 ·rfl
 ·rfl
theorem doProg_c (p0 p:Prg) (hv:validF p = true):DoC p0 ([112,114,111,103,114,97,109] ++ 32 :: tP p) [111,107,10] p:=by
 have hc := cutH_c [112,114,111,103,114,97,109] (tP p) 32 (by decide) (by have := tP_size hv;simp only [List.length_cons,List.length_nil]; omega)
 have hp := parse_c p hv
 have hx := xch_c p0 p
 unfold DoC
 refine mc_start Tryz.func47 Tryz.ntmps47 ?_
 repeat' (first|(apply id_rw;first|(apply rx_store;rfl;rfl;rfl;rfl;rfl;(case hl => (simp;done));exact (rfl:_=[_,_]))|(apply rx_sbin;rfl;rfl;(exact sb_lt (b := true) (by decide));rfl)|(apply rx_callE (k := 81);rfl;exact hc;(rfl);rfl)|(apply rx_callE (k := 83);rfl;exact hp;(rfl);rfl)|(apply rx_xch (p := p0) (q := p);rfl;rfl;rfl;rfl;exact hx;rfl;rfl))|refine stpb ?_|fail)
 (refine rq_ret rfl ?_; refine mc_ret () trivial ?_ ⟨sE ?_,trivial⟩)
 ·rfl
 ·rfl
theorem doNum_c (w t:List UInt8) (n:Int) (p q:Prg) (h32:(32:UInt8) ∉ w) (hw:w.length ≤ 1000) (hn:0 ≤ n ∧ n ≤ 9) (w1:(w == [112,114,111,103,114,97,109]) = false) (w2:(w == [114,117,110]) = false) (w3:(w == [99,101,108,108,115]) = false) (h:MC Tryz.prog 87 [.optr 0 0,sv (bA w),iv n] [(0,some [sl cI p.types,sl cStmt p.body])] 1 (fun _:Unit => True) (fun _ => sv (bA (t))) (fun _ => [(0,some [sl cI q.types,sl cStmt q.body])])):DoC p (w ++ 32 :: [b8 (48 + n)]) t q:=by
 have hc := cutH_c w [b8 (48 + n)] 32 h32 (by simp only [List.length_cons,List.length_nil]; omega)
 have hr := readNum_c n hn
 unfold DoC
 refine mc_start Tryz.func47 Tryz.ntmps47 ?_
 repeat' (first|(apply id_rw;first|(apply rx_sbin;rfl;rfl;(first|exact sb_lt w1|exact sb_lt w2|exact sb_lt w3);rfl)|(apply rx_callE (k := 81);rfl;exact hc;(rfl);rfl)|(apply rx_callE (k := 86);rfl;exact hr;(rfl);rfl)|(apply rx_numb (s := w) (t := t) (n := n) (p := p) (q := q);rfl;rfl;rfl;rfl;exact h;rfl;rfl))|refine stpb ?_|fail)
 (refine rq_ret rfl ?_; refine mc_ret () trivial ?_ ⟨sE ?_,trivial⟩)
 ·rfl
 ·rfl
instance botS : BoT Tryz.prog 4:=⟨by kernel_rfl⟩
theorem sb_same {a b:ByteArray}(h:a = b):sbin .eql a b = some (.bool true) := by subst h;simp [sbin]
theorem fmtP_c (p:Prg) (hv:validF p = true) (hl:p.types.length ≤ 1048576) (hs:cntL p.body ≤ 1048576):PC Tryz.prog 14 [aPrg p] (fun r => r = sv (bA (tP p))):=by
 have h1 := validI_c p hl (by omega)
 rw [hv] at h1
 have h2 := progText_c p hv
 refine pc_start Tryz.func14 Tryz.ntmps14 ?_
 repeat' (first|(apply id_rw;first|(apply rx_callE (k := 17);rfl;exact h1;exact Pur.pf;rfl)|(apply rx_callE (k := 48);rfl;exact h2;exact Pur.pf;rfl))|refine stpb ?_|fail)
 exact rq_ret rfl ⟨rfl,rfl⟩
theorem fmtP0_c (p:Prg) (hv:validF p = false) (hl:p.types.length ≤ 1048576) (hs:cntL p.body ≤ 1048576):PC Tryz.prog 14 [aPrg p] (fun r => r = sv ⟨#[]⟩):=by
 have h1 := validI_c p hl (by omega)
 rw [hv] at h1
 refine pc_start Tryz.func14 Tryz.ntmps14 ?_
 repeat' (first|(apply id_rw;(apply rx_callE (k := 17);rfl;exact h1;exact Pur.pf;rfl))|refine stpb ?_|fail)
 exact rq_ret rfl ⟨rfl,rfl⟩
theorem smL_cnt:∀ i:Nat,cntS smL[i]! = 1
 | 0 => rfl
 | 1 => rfl
 | 2 => rfl
 | 3 => rfl
 | 4 => rfl
 | 5 => rfl
 | 6 => rfl
 | 7 => rfl
 | i + 8 => by rw [getElem!_neg smL (i + 8) (by show ¬ i + 8 < 8;omega)]; rfl
theorem smP_cnt (n:Nat):cntL (smP n).body = 6:=by
 show cntL (smH ++ smB n 4) = 6
 rw [cntL_append]
 simp only [smB,cntL,smL_cnt]; rfl
theorem smP_10:∀ k,k < 10 → validF (smP k) = true:=by
 intro k hk
 match k,hk with
 | 0,_ => rfl
 | 1,_ => rfl
 | 2,_ => rfl
 | 3,_ => rfl
 | 4,_ => rfl
 | 5,_ => rfl
 | 6,_ => rfl
 | 7,_ => rfl
 | 8,_ => rfl
 | 9,_ => rfl
 | _ + 10,h => exact absurd h (by omega)
theorem numbSmall_c (p:Prg) (n:Int) (hn:0 ≤ n ∧ n ≤ 9):MC Tryz.prog 87 [.optr 0 0,sv (bA [115,109,97,108,108]),iv n] [(0,some [sl cI p.types,sl cStmt p.body])] 1 (fun _:Unit => True) (fun _ => sv (bA ([111,107,10]))) (fun _ => [(0,some [sl cI (smP n.toNat).types,sl cStmt (smP n.toNat).body])]):=by
 have h1 := SmallI_c n
 rw [if_pos (by omega)] at h1
 have hx := xch_c p (smP n.toNat)
 refine mc_start Tryz.func87 Tryz.ntmps87 ?_
 repeat' (first|(apply id_rw;first|(apply rx_sbin;rfl;rfl;(first|exact sb_lt (b := false) (by decide)|exact sb_lt (b := true) (by decide));rfl)|(apply rx_callE (k := 10);rfl;exact h1;(rfl);rfl)|(apply rx_xch (p := p) (q := smP n.toNat);rfl;rfl;rfl;rfl;exact hx;rfl;rfl))|refine stpb ?_|fail)
 (refine rq_ret rfl ?_; refine mc_ret () trivial ?_ ⟨sE ?_,trivial⟩)
 ·rfl
 ·rfl
theorem SmallS_c (n:Int):PC Tryz.prog 11 [iv n] (fun r => r = if 0 ≤ n ∧ n < 4096 then .tup [aPrg (smP n.toNat),bv true] else .tup [aPrg ⟨[],[]⟩,bv false]):=by
 have ht := smTS_c
 by_cases h : 0 ≤ n ∧ n < 4096
 ·obtain ⟨k, rfl⟩ : ∃ k : Nat, n = k := ⟨n.toNat, by omega⟩
  rw [if_pos h]
  have hp := l15P_c k (by omega)
  refine pc_start Tryz.func11 Tryz.ntmps11 ?_
  repeat' (first|(apply id_rw;first|(apply rx_callE (k := 38);rfl;exact ht;(rfl);rfl)|(apply rx_callE (k := 39);rfl;exact hp;(rfl);rfl))|refine stpb ?_|(refine stp2 ?_ ?_ <;> intro hc hq <;> try (exfalso;omega))|fail)
  exact rq_ret (l := [aPrg (smP k),bv true]) rfl ⟨rfl,by exact Pur.pf⟩
 ·rw [if_neg h]
  refine pc_start Tryz.func11 Tryz.ntmps11 ?_
  repeat' (first|(apply id_rw;(apply rx_callE (k := 38);rfl;exact ht;(rfl);rfl))|refine stpb ?_|(refine stp2 ?_ ?_ <;> intro hc hq <;> try (exfalso;omega))|(refine stp3 ?_ ?_ <;> intro hg hq <;> try (exfalso;omega))|fail)
  all_goals exact rq_ret (l := [aPrg ⟨[],[]⟩,bv false]) rfl ⟨rfl,by exact Pur.pf⟩
theorem drawSmall_c (bs:List UInt8) (hb:bs.length ≤ 1048576):PC Tryz.prog 9 [sl cU bs] (fun r => ∃ n:Int,r = iv n):=by
 have hb2 : (bs.take 2000).length ≤ 2000 := by rw [List.length_take]; omega
 have h0 := pickF_bd (bs.take 2000) 0 12
 have h1 := pickF_bd (bs.take 2000) (0 + 1) 64
 have h2 := pickF_bd (bs.take 2000) (0 + 1 + 1) 64
 refine pc_start Tryz.func9 Tryz.ntmps9 ?_
 repeat' (first|(apply id_rw;first|(apply rx_buildSliceI (t := _);rfl;rfl;rfl;(exact (rfl:_=some [_,_,_,_]));rfl;rfl)|(first|(apply rx_l17Open;rfl;(apply l17Open_c <;> (assumption));rfl;rfl)|(apply rx_pick;rfl;rfl;(rfl);(apply pick_c <;> (first|assumption|omega));rfl;rfl)|(apply rx_num;rfl;rfl;infer_instance;rfl;(rfl);assumption;omega;(decide);(decide);rfl;rfl)))|refine stpb ?_|(refine stp2 ?_ ?_ <;> intro hc hq <;> try (exfalso;omega))|fail)
 all_goals exact rq_ret rfl ⟨⟨_,rfl⟩,rfl⟩
theorem scSmall_c (n:Int) (hn:0 ≤ n ∧ n ≤ 9):PC Tryz.prog 13 [sv ((⟨#[115,109,97,108,108,32]⟩ ++ bytF .empty [48 + n]) ++ ⟨#[10,115,104,111,119,10]⟩)] (fun r => r = sv (bA ([111,107,10] ++ (tP (smP n.toNat) ++ [10])))):=by
 have hv := smP_10 n.toNat (by omega)
 have hz := tP_size hv
 have hb := b8_10 (n := 48 + n) (by omega)
 have h1 := doNum_c [115,109,97,108,108] [111,107,10] n ⟨[],[]⟩ (smP n.toNat) (by decide) (by decide) hn (by decide) (by decide) (by decide) (numbSmall_c ⟨[],[]⟩ n hn)
 have h2 := doAlone_c [115,104,111,119] (tP (smP n.toNat) ++ [10]) (smP n.toNat) (smP n.toNat) (by decide) (aloneShow_c _ hv)
 have h := script2_c (a := [115,109,97,108,108] ++ 32 :: [b8 (48 + n)]) (b := [115,104,111,119]) (by simp [hb]) (by decide) (by simp) (by simp) h1 h2 (by simp) (by simp only [List.length_append,List.length_cons,List.length_nil]; omega)
 have e : ((⟨#[115, 109, 97, 108, 108, 32]⟩ : ByteArray) ++ bytF .empty [48 + n]) ++ ⟨#[10, 115, 104, 111, 119, 10]⟩ = bA (([115, 109, 97, 108, 108] ++ 32 :: [b8 (48 + n)]) ++ 10 :: ([115, 104, 111, 119] ++ [10])) := by
  show (bA [115,109,97,108,108,32] ++ bA [b8 (48 + n)]) ++ bA [10,115,104,111,119,10] = _
  rw [bA_app,bA_app]; rfl
 rw [e]; exact h
theorem FnScriptSmall_c (bs:List UInt8):PC Tryz.prog 3 [sl cU bs] (fun r => r = bv true):=by
 rcases Nat.lt_or_ge 1048576 bs.length with hb|hb
 ·refine pc_start Tryz.func3 Tryz.ntmps3 ?_
  repeat' (first|refine stpb ?_|(refine stp2 ?_ ?_ <;> intro hc hq <;> try (exfalso;omega))|fail)
  exact rq_ret rfl ⟨rfl,rfl⟩
 refine pc_start Tryz.func3 Tryz.ntmps3 ?_
 repeat' (first|(apply id_rw;first|(apply rx_call (k := 9);rfl;exact drawSmall_c bs hb;exact Pur.pf;rfl;(rintro _ ⟨n,rfl⟩ _))|(with_reducible apply rw_stop (d := 15)))|refine stpb ?_|(refine stp2 ?_ ?_ <;> intro hc hq <;> try (exfalso;omega))|fail)
 refine rw_go ?_
 have h1 := SmallI_c n
 have h2 := SmallS_c n
 by_cases h : 0 ≤ n ∧ n < 4096
 ·rw [if_pos h] at h1 h2
  have h3 := progSame_c (smP n.toNat) (by rw [smP_cnt]; decide) (by show 4 ≤ 1048576;decide)
  by_cases h9 : n ≤ 9
  ·have hv := smP_10 n.toNat (by omega)
   have hz := tP_size hv
   have z1 := bA_size (tP (smP n.toNat))
   have h4 := scSmall_c n (by omega)
   have h5 := fmtP_c (smP n.toNat) hv (by show 4 ≤ 1048576;decide) (by rw [smP_cnt]; decide)
   have e : bA ([111, 107, 10] ++ (tP (smP n.toNat) ++ [10])) = (⟨#[111, 107, 10]⟩ ++ bA (tP (smP n.toNat))) ++ ⟨#[10]⟩ := by
    show _ = (bA [111,107,10] ++ bA (tP (smP n.toNat))) ++ bA [10]
    rw [bA_app,bA_app,List.append_assoc]
   repeat' (first|(apply id_rw;first|(apply rx_sbin (d := 62);rfl;rfl;exact sb_same e;rfl)|(apply rx_callE (k := 10);rfl;exact h1;(rfl);rfl)|(apply rx_callE (k := 11);rfl;exact h2;(rfl);rfl)|(apply rx_callE (k := 12);rfl;exact h3;exact Pur.pf;rfl)|(apply rx_callE (k := 13);rfl;exact h4;(rfl);rfl)|(apply rx_callE (k := 14);rfl;exact h5;exact Pur.pf;rfl)|(apply rx_sbin;rfl;rfl;(first|rfl|exact sadd_ok (by (simp only [ByteArray.size_append,bsz_lit,List.length_cons,List.length_nil,letF_size,decF_size,bytF_size] <;> omega)));rfl)|(apply rx_addU;rfl;rfl;omega;rfl)|(apply rx_b2s (ns := [_]);rfl;rfl;rfl)|(apply rx_convU;rfl;omega;rfl))|refine stpb ?_|(refine stp2 ?_ ?_ <;> intro hc hq <;> try (exfalso;omega))|(refine stp3 ?_ ?_ <;> intro hg hq <;> try (exfalso;omega))|fail)
   all_goals exact rq_ret rfl ⟨rfl,rfl⟩
  ·repeat' (first | (apply id_rw; first | (apply rx_callE (k := 10);rfl;exact h1;(rfl);rfl) | (apply rx_callE (k := 11);rfl;exact h2;(rfl);rfl) | (apply rx_callE (k := 12);rfl;exact h3;exact Pur.pf;rfl)) | refine stpb ?_ | (refine stp2 ?_ ?_ <;> intro hc hq <;> try (exfalso; omega)) | (refine stp3 ?_ ?_ <;> intro hg hq <;> try (exfalso; omega))|fail)
   all_goals exact rq_ret rfl ⟨rfl,rfl⟩
 ·rw [if_neg h] at h1 h2
  have h3 := progSame_c ⟨[],[]⟩ (by simp [cntL]) (by simp)
  repeat' (first|(apply id_rw;first|(apply rx_callE (k := 10);rfl;exact h1;(rfl);rfl)|(apply rx_callE (k := 11);rfl;exact h2;(rfl);rfl)|(apply rx_callE (k := 12);rfl;exact h3;(rfl);rfl))|refine stpb ?_|(refine stp2 ?_ ?_ <;> intro hc hq <;> try (exfalso;omega))|(refine stp3 ?_ ?_ <;> intro hg hq <;> try (exfalso;omega))|fail)
  all_goals exact rq_ret rfl ⟨rfl,rfl⟩
theorem kinds_ty {t:Int}(h:1 ≤ t ∧ t ≤ 4):kinds[t.toNat]! = bA [tyB t]:=by
 have h14 : t = 1 ∨ t = 2 ∨ t = 3 ∨ t = 4 := by omega
 rcases h14 with rfl|rfl|rfl|rfl <;> rfl
theorem l1ProgX_c (p:Prg) (hv:validF p = true):PC Tryz.prog 51 [aPrg p] (fun r => r = sv (bA (tP p))):=by
 have hv2 := hv
 simp only [validF,Bool.and_eq_true,decide_eq_true_eq] at hv2
 obtain ⟨⟨hts,hol⟩,hcn⟩ := hv2
 have hl6 := typesOk_len hts
 have htx := textL_size p.body
 refine pc_start Tryz.func51 Tryz.ntmps51 ?_
 repeat' (first|refine stpb ?_|fail)
 refine aw_loopA (σ := Nat) [1] [0] (fun k => [(4,iv (k : Int)),(3,sv (bA ((p.types.take k).map tyB)))]) (fun k => []) (fun k => k ≤ p.types.length) (fun k => p.types.length - k) (0) (Nat.zero_le _) ?_
 intro k hk
 have hsz2 : (bA ((p.types.take k).map tyB)).size ≤ 6 := by rw [bA_size,List.length_map,List.length_take]; omega
 have htk := typesOk_at hts k
 have hkz : (kinds[(p.types[k]!).toNat]!).size ≤ 1 := kinds_size _
 have hkl : kinds.length = 5 := rfl
 repeat' (first|(apply id_rw;first|(with_reducible apply rw_stop (d := 14))|(apply rx_callE (k := 92);rfl;exact l1List_c p.types 4 p.body hts (by omega) hol;exact Pur.pf;rfl)|(apply rx_sbin;rfl;rfl;(exact sadd_ok (by (simp only [ByteArray.size_append,bsz_lit,List.length_cons,List.length_nil,letF_size,decF_size,bytF_size] <;> omega)));rfl)|(apply rx_buildSliceI (t := _);rfl;rfl;rfl;(exact (rfl:_=some [_,_,_,_,_]));rfl;rfl))|refine stpb ?_|(refine stp2 ?_ ?_ <;> intro hc hq <;> try (exfalso;omega))|fail)
 ·have hkn : k < p.types.length := by omega
  have ekk : List.map tyB (p.types.take k) ++ [tyB p.types[k]!] = List.map tyB (p.types.take (k + 1)) := by rw [take_succB p.types k hkn,List.map_append]; rfl
  refine rw_go (rw_le ?_ (Le.slotEq (d := 13) _ (.imm 5 (flat cStr kinds)) rfl rfl))
  repeat' (first|(apply id_rw;(apply rx_sbin;rfl;rfl;(exact sadd_ok (by (omega)));rfl))|refine stpb ?_|fail)
  rw [kinds_ty (htk hkn),bA_app,ekk]
  (refine ex3 (k + 1) (Le.renA [(0,0)]) ?_ ?_)
  ·exact hkn
  ·omega
 ·have hke : k = p.types.length := by omega
  refine rq_ret rfl ⟨?_,rfl⟩
  show sv (bA (List.map tyB (List.take k p.types)) ++ bA [58] ++ bA (tL p.body)) = _
  rw [bA_app,bA_app,hke,List.take_length,List.append_assoc]; rfl
theorem fmtX_c (p:Prg) (hv:validF p = true) (hl:p.types.length ≤ 1048576) (hs:cntL p.body ≤ 1048576):PC Tryz.prog 16 [aPrg p] (fun r => r = sv (bA (tP p))):=by
 have h1 := validS_c p hl (by omega)
 rw [hv] at h1
 have h2 := l1ProgX_c p hv
 refine pc_start Tryz.func16 Tryz.ntmps16 ?_
 repeat' (first|(apply id_rw;first|(apply rx_callE (k := 50);rfl;exact h1;exact Pur.pf;rfl)|(apply rx_callE (k := 51);rfl;exact h2;exact Pur.pf;rfl))|refine stpb ?_|fail)
 exact rq_ret rfl ⟨rfl,rfl⟩
theorem fmtX0_c (p:Prg) (hv:validF p = false) (hl:p.types.length ≤ 1048576) (hs:cntL p.body ≤ 1048576):PC Tryz.prog 16 [aPrg p] (fun r => r = sv ⟨#[]⟩):=by
 have h1 := validS_c p hl (by omega)
 rw [hv] at h1
 refine pc_start Tryz.func16 Tryz.ntmps16 ?_
 repeat' (first|(apply id_rw;(apply rx_callE (k := 50);rfl;exact h1;exact Pur.pf;rfl))|refine stpb ?_|fail)
 exact rq_ret rfl ⟨rfl,rfl⟩
theorem drawPV_c (bs:List UInt8) (hb:bs.length ≤ 1048576):PC Tryz.prog 49 [sl cU bs] (fun r => ∃ q:Prg,r = aPrg q ∧ cntL q.body ≤ 20000 ∧ q.types.length ≤ 1000):=by
 have hb2 : (bs.take 2000).length ≤ 2000 := by rw [List.length_take]; omega
 refine pc_start Tryz.func49 Tryz.ntmps49 ?_
 repeat' (first|(apply id_rw;first|(apply rx_prgcall (k := 55);exact draw_c (bs.take 2000) 0 hb2 (by decide);rfl;rfl;rfl;rfl;rfl;(rintro ⟨q,p1⟩ ⟨hq1,hq2,hq3⟩);(dsimp only at hq1 hq2 hq3))|(apply rx_prgcall (k := 54);exact mutate_c (bs.take 2000) p1 q hb2 (by omega) (by omega) (by omega);rfl;exact Pur.pf;rfl;rfl;rfl;(rintro ⟨q2,p2⟩ ⟨hr1,hr2,hr3⟩);(dsimp only at hr1 hr2 hr3))|(apply rx_l17Open;rfl;(apply l17Open_c <;> (assumption));rfl;rfl))|refine stpb ?_|fail)
 exact rq_ret (l := [aPrg q2]) rfl ⟨⟨q2,rfl,by omega,by omega⟩,Pur.pf⟩
theorem drawFP_c (bs:List UInt8) (hb:bs.length ≤ 1048576):PC Tryz.prog 15 [sl cU bs] (fun r => ∃ q:Prg,r = aPrg q ∧ cntL q.body ≤ 20000 ∧ q.types.length ≤ 1000):=by
 refine pc_start Tryz.func15 Tryz.ntmps15 ?_
 repeat' (first|(apply id_rw;(apply rx_call (k := 49);rfl;exact drawPV_c bs hb;exact Pur.pf;rfl;(rintro _ ⟨q,rfl,hq1,hq2⟩ _)))|refine stpb ?_|fail)
 exact rq_ret (l := [aPrg q]) rfl ⟨⟨q,rfl,hq1,hq2⟩,Pur.pf⟩
theorem scShow_c (p:Prg) (hv:validF p = true):PC Tryz.prog 13 [sv ((⟨#[112,114,111,103,114,97,109,32]⟩ ++ bA (tP p)) ++ ⟨#[10,115,104,111,119,10]⟩)] (fun r => r = sv (bA ([111,107,10] ++ (tP p ++ [10])))):=by
 have hz := tP_size hv
 have h1 := doProg_c ⟨[],[]⟩ p hv
 have h2 := doAlone_c [115,104,111,119] (tP p ++ [10]) p p (by decide) (aloneShow_c _ hv)
 have h := script2_c (a := [112,114,111,103,114,97,109] ++ 32 :: tP p) (b := [115,104,111,119]) (by simp [tP_no10 hv]) (by decide) (by simp) (by simp) h1 h2 (by simp only [List.length_append,List.length_cons,List.length_nil]; omega) (by simp only [List.length_append,List.length_cons,List.length_nil]; omega)
 have e : ((⟨#[112, 114, 111, 103, 114, 97, 109, 32]⟩ : ByteArray) ++ bA (tP p)) ++ ⟨#[10, 115, 104, 111, 119, 10]⟩ = bA (([112, 114, 111, 103, 114, 97, 109] ++ 32 :: tP p) ++ 10 :: ([115, 104, 111, 119] ++ [10])) := by
  show (bA [112,114,111,103,114,97,109,32] ++ bA (tP p)) ++ bA [10,115,104,111,119,10] = _
  rw [bA_app,bA_app]; rfl
 rw [e]; exact h
theorem sb_nsame (a:ByteArray):sbin .neq a a = some (.bool false) := by simp [sbin]
theorem FnScriptShow_c (bs:List UInt8):PC Tryz.prog 4 [sl cU bs] (fun r => r = bv true):=by
 rcases Nat.lt_or_ge 1048576 bs.length with hb|hb
 ·refine pc_start Tryz.func4 Tryz.ntmps4 ?_
  repeat' (first|refine stpb ?_|(refine stp2 ?_ ?_ <;> intro hc hq <;> try (exfalso;omega))|fail)
  exact rq_ret rfl ⟨rfl,rfl⟩
 refine pc_start Tryz.func4 Tryz.ntmps4 ?_
 repeat' (first|(apply id_rw;first|(apply rx_call (k := 15);rfl;exact drawFP_c bs hb;exact Pur.pf;rfl;(rintro _ ⟨p,rfl,hq1,hq2⟩ _))|(with_reducible apply rw_stop (d := 10)))|refine stpb ?_|(refine stp2 ?_ ?_ <;> intro hc hq <;> try (exfalso;omega))|fail)
 refine rw_go ?_
 have h0 := validI_c p (by omega) (by omega)
 cases hv : validF p with
 | true =>
  rw [hv] at h0
  have hz := tP_size hv
  have z1 := bA_size (tP p)
  have h1 := fmtP_c p hv (by omega) (by omega)
  have h2 := fmtX_c p hv (by omega) (by omega)
  have h3 := scShow_c p hv
  have e : bA ([111, 107, 10] ++ (tP p ++ [10])) = (⟨#[111, 107, 10]⟩ ++ bA (tP p)) ++ ⟨#[10]⟩ := by
   show _ = (bA [111,107,10] ++ bA (tP p)) ++ bA [10]
   rw [bA_app,bA_app,List.append_assoc]
  repeat' (first|(apply id_rw;first|(apply rx_sbin (d := 15);rfl;rfl;exact sb_nsame _;rfl)|(apply rx_sbin (d := 32);rfl;rfl;exact sb_same e;rfl)|(apply rx_callE (k := 14);rfl;exact h1;exact Pur.pf;rfl)|(apply rx_callE (k := 16);rfl;exact h2;exact Pur.pf;rfl)|(apply rx_callE (k := 17);rfl;exact h0;exact Pur.pf;rfl)|(apply rx_callE (k := 13);rfl;exact h3;(rfl);rfl)|(apply rx_sbin;rfl;rfl;(exact sadd_ok (by (simp only [ByteArray.size_append,bsz_lit,List.length_cons,List.length_nil,letF_size,decF_size,bytF_size] <;> omega)));rfl))|refine stpb ?_|fail)
  all_goals exact rq_ret rfl ⟨rfl,rfl⟩
 | false =>
  rw [hv] at h0
  have h1 := fmtP0_c p hv (by omega) (by omega)
  have h2 := fmtX0_c p hv (by omega) (by omega)
  repeat' (first|(apply id_rw;first|(apply rx_sbin (d := 15);rfl;rfl;exact sb_nsame _;rfl)|(apply rx_sbin (d := 24);rfl;rfl;exact sb_same rfl;rfl)|(apply rx_callE (k := 14);rfl;exact h1;exact Pur.pf;rfl)|(apply rx_callE (k := 16);rfl;exact h2;exact Pur.pf;rfl)|(apply rx_callE (k := 17);rfl;exact h0;exact Pur.pf;rfl))|refine stpb ?_|fail)
  all_goals exact rq_ret rfl ⟨rfl,rfl⟩
theorem isStmt_c (q:Prg) (k:Int) (hs:cntL q.body ≤ 1048576):PC Tryz.prog 56 [aPrg q,iv k] (fun r => r = bv (decide (0 ≤ k ∧ k < q.body.length))):=by
 have hlen := cntL_len q.body
 refine pc_start Tryz.func56 Tryz.ntmps56 ?_
 have e : (decide (0 ≤ k) && decide (k ≤ (q.body.length : Int) - 1)) = decide (0 ≤ k ∧ k < q.body.length) := by
  rw [Bool.eq_iff_iff]; simp only [Bool.and_eq_true,decide_eq_true_eq]; omega
 repeat' (first|(apply id_rw;(apply rx_callE (k := 35);rfl;(apply within_c);(rfl);rfl))|refine stpb ?_|fail)
 exact rq_ret rfl ⟨congrArg bv e,rfl⟩
theorem DropI2_c (q:Prg) (k:Nat) (hv:validF q = true) (hk:k < q.body.length) (hl:q.types.length ≤ 1048576) (hs:cntL q.body ≤ 1048576):PC Tryz.prog 19 [aPrg q,iv (k:Int)] (fun r => r = .tup [aPrg (dropP q k),bv true]):=by
 have hlen := cntL_len q.body
 have hval := validI_c q (by omega) (by omega)
 rw [hv] at hval
 have hdr := dropped_c q k hk (by omega) (by omega)
 have his := isStmt_c q k (by omega)
 rw [decide_eq_true (by omega)] at his
 refine pc_start Tryz.func19 Tryz.ntmps19 ?_
 repeat' (first|(apply id_rw;first|(apply rx_store;rfl;rfl;rfl;rfl;rfl;(case hl => (simp;done));exact (rfl:_=[_,_]))|(apply rx_callE (k := 17);rfl;exact hval;exact Pur.pf;rfl)|(apply rx_callE (k := 57);rfl;exact hdr;exact Pur.pf;rfl)|(apply rx_callE (k := 56);rfl;exact his;exact Pur.pf;rfl))|refine stpb ?_|fail)
 exact rq_ret (l := [aPrg (dropP q k),bv true]) rfl ⟨rfl,by exact Pur.pf⟩
theorem DropI0_c (q:Prg) (k:Int) (h:¬ (validF q = true ∧ 0 ≤ k ∧ k < q.body.length)) (hl:q.types.length ≤ 1048576) (hs:cntL q.body ≤ 1048576):PC Tryz.prog 19 [aPrg q,iv k] (fun r => r = .tup [aPrg ⟨[],[]⟩,bv false]):=by
 have hlen := cntL_len q.body
 have hval := validI_c q (by omega) (by omega)
 have his := isStmt_c q k (by omega)
 cases hv : validF q with
 | true =>
  rw [hv] at hval
  rw [decide_eq_false (fun e => h ⟨hv,e⟩)] at his
  refine pc_start Tryz.func19 Tryz.ntmps19 ?_
  repeat' (first|(apply id_rw;first|(apply rx_store;rfl;rfl;rfl;rfl;rfl;(case hl => (simp;done));exact (rfl:_=[_,_]))|(apply rx_callE (k := 17);rfl;exact hval;exact Pur.pf;rfl)|(apply rx_callE (k := 56);rfl;exact his;exact Pur.pf;rfl))|refine stpb ?_|fail)
  exact rq_ret (l := [aPrg ⟨[],[]⟩,bv false]) rfl ⟨rfl,rfl⟩
 | false =>
  rw [hv] at hval
  refine pc_start Tryz.func19 Tryz.ntmps19 ?_
  repeat' (first|(apply id_rw;first|(apply rx_store;rfl;rfl;rfl;rfl;rfl;(case hl => (simp;done));exact (rfl:_=[_,_]))|(apply rx_callE (k := 17);rfl;exact hval;exact Pur.pf;rfl))|refine stpb ?_|fail)
  exact rq_ret (l := [aPrg ⟨[],[]⟩,bv false]) rfl ⟨rfl,rfl⟩
theorem dropS0_c (q:Prg) (k:Int) (h:¬ (validF q = true ∧ 0 ≤ k ∧ k < q.body.length)) (hl:q.types.length ≤ 1048576) (hs:cntL q.body ≤ 1048576):PC Tryz.prog 20 [aPrg q,iv k] (fun r => r = .tup [aPrg ⟨[],[]⟩,bv false]):=by
 have hlen := cntL_len q.body
 have hval := validS_c q (by omega) (by omega)
 cases hv : validF q with
 | true =>
  rw [hv] at hval
  have hk : ¬ (0 ≤ k ∧ k < q.body.length) := fun e => h ⟨hv,e⟩
  refine pc_start Tryz.func20 Tryz.ntmps20 ?_
  repeat' (first|(apply id_rw;first|(apply rx_store;rfl;rfl;rfl;rfl;rfl;(case hl => (simp;done));exact (rfl:_=[_,_]))|(apply rx_callE (k := 50);rfl;exact hval;exact Pur.pf;rfl))|refine stpb ?_|(refine stp2 ?_ ?_ <;> intro hc hq <;> try (exfalso;omega))|(refine stp3 ?_ ?_ <;> intro hg hq <;> try (exfalso;omega))|fail)
  all_goals first
   | exact rq_ret (l := [aPrg ⟨[],[]⟩,bv false]) rfl ⟨rfl,rfl⟩
   | (exfalso;omega)
 | false =>
  rw [hv] at hval
  refine pc_start Tryz.func20 Tryz.ntmps20 ?_
  repeat' (first|(apply id_rw;first|(apply rx_store;rfl;rfl;rfl;rfl;rfl;(case hl => (simp;done));exact (rfl:_=[_,_]))|(apply rx_callE (k := 50);rfl;exact hval;exact Pur.pf;rfl))|refine stpb ?_|fail)
  exact rq_ret (l := [aPrg ⟨[],[]⟩,bv false]) rfl ⟨rfl,rfl⟩
theorem drawDrop_c (bs:List UInt8) (hb:bs.length ≤ 1048576):PC Tryz.prog 18 [sl cU bs] (fun r => ∃ (q:Prg) (k:Int),r = .tup [aPrg q,iv k] ∧ cntL q.body ≤ 20000 ∧ q.types.length ≤ 1000):=by
 have hb2 : (bs.take 2000).length ≤ 2000 := by rw [List.length_take]; omega
 refine pc_start Tryz.func18 Tryz.ntmps18 ?_
 repeat' (first|(apply id_rw;first|(apply rx_store;rfl;rfl;rfl;rfl;rfl;(case hl => (simp;done));exact (rfl:_=[_,_]))|(apply rx_prgcall (k := 55);exact draw_c (bs.take 2000) 0 hb2 (by decide);rfl;rfl;rfl;rfl;rfl;(rintro ⟨q,p1⟩ ⟨hq1,hq2,hq3⟩);(dsimp only at hq1 hq2 hq3))|(apply rx_prgcall (k := 54);exact mutate_c (bs.take 2000) p1 q hb2 (by omega) (by omega) (by omega);rfl;exact Pur.pf;rfl;rfl;rfl;(rintro ⟨q2,p2⟩ ⟨hr1,hr2,hr3⟩);(dsimp only at hr1 hr2 hr3))|(first|(apply rx_l17Open;rfl;(apply l17Open_c <;> (assumption));rfl;rfl)|(apply rx_numO;rfl;rfl;rfl;rfl;infer_instance;rfl;(rfl);assumption;omega;(decide);(decide);rfl;rfl)))|refine stpb ?_|refine stpd ?_|fail)
 exact rq_ret (l := [aPrg q2,iv _]) rfl ⟨⟨q2,_,rfl,by omega,by omega⟩,by exact Pur.pf⟩
theorem numbDrop_c (p:Prg) (k:Nat) (hv:validF p = true) (hk:k < p.body.length):MC Tryz.prog 87 [.optr 0 0,sv (bA [100,114,111,112]),iv (k:Int)] [(0,some [sl cI p.types,sl cStmt p.body])] 1 (fun _:Unit => True) (fun _ => sv (bA ([111,107,10]))) (fun _ => [(0,some [sl cI (dropP p k).types,sl cStmt (dropP p k).body])]):=by
 have hv2 := hv
 simp only [validF,Bool.and_eq_true,decide_eq_true_eq] at hv2
 obtain ⟨⟨t1,t2⟩,t3⟩ := hv2
 have htl := typesOk_len t1
 have hd := DropI2_c p k hv hk (by omega) (by omega)
 have hx := xch_c p (dropP p k)
 refine mc_start Tryz.func87 Tryz.ntmps87 ?_
 repeat' (first|(apply id_rw;first|(apply rx_sbin;rfl;rfl;(first|exact sb_lt (b := false) (by decide)|exact sb_lt (b := true) (by decide));rfl)|(apply rx_callE (k := 19);rfl;exact hd;exact Pur.pf;rfl)|(apply rx_xch (p := p) (q := dropP p k);rfl;rfl;rfl;rfl;exact hx;rfl;rfl))|refine stpb ?_|fail)
 (refine rq_ret rfl ?_; refine mc_ret () trivial ?_ ⟨sE ?_,trivial⟩)
 ·rfl
 ·rfl
theorem scDrop_c (p:Prg) (k:Nat) (hv:validF p = true) (hk:k < p.body.length) (h9:k ≤ 9):PC Tryz.prog 13 [sv ((((⟨#[112,114,111,103,114,97,109,32]⟩ ++ bA (tP p)) ++ ⟨#[10,100,114,111,112,32]⟩) ++ bytF .empty [48 + (k:Int)]) ++ ⟨#[10,115,104,111,119,10]⟩)] (fun r => r = sv (bA (([111,107,10] ++ [111,107,10]) ++ (tP (dropP p k) ++ [10])))):=by
 have hz := tP_size hv
 have hvd := dropP_valid (k := k) hv
 have hz2 := tP_size hvd
 have hb := b8_10 (n := 48 + (k : Int)) (by omega)
 have h1 := doProg_c ⟨[],[]⟩ p hv
 have h2 := doNum_c [100,114,111,112] [111,107,10] (k : Int) p (dropP p k) (by decide) (by decide) (by omega) (by decide) (by decide) (by decide) (numbDrop_c p k hv hk)
 have h3 := doAlone_c [115,104,111,119] (tP (dropP p k) ++ [10]) (dropP p k) (dropP p k) (by decide) (aloneShow_c _ hvd)
 have h := script3_c (a := [112,114,111,103,114,97,109] ++ 32 :: tP p) (b := [100,114,111,112] ++ 32 :: [b8 (48 + (k : Int))]) (c := [115,104,111,119]) (by simp [tP_no10 hv]) (by simp [hb]) (by decide) (by simp) (by simp) (by simp) h1 h2 h3 (by simp only [List.length_append,List.length_cons,List.length_nil]; omega) (by simp only [List.length_append,List.length_cons,List.length_nil]; omega)
 have e : ((((⟨#[112, 114, 111, 103, 114, 97, 109, 32]⟩ : ByteArray) ++ bA (tP p)) ++ ⟨#[10, 100, 114, 111, 112, 32]⟩) ++ bytF .empty [48 + (k : Int)]) ++ ⟨#[10, 115, 104, 111, 119, 10]⟩ = bA (([112, 114, 111, 103, 114, 97, 109] ++ 32 :: tP p) ++ 10 :: (([100, 114, 111, 112] ++ 32 :: [b8 (48 + (k : Int))]) ++ 10 :: ([115, 104, 111, 119] ++ [10]))) := by
  show (((bA [112,114,111,103,114,97,109,32] ++ bA (tP p)) ++ bA [10,100,114,111,112,32]) ++ bA [b8 (48 + (k : Int))]) ++ bA [10,115,104,111,119,10] = _
  rw [bA_app,bA_app,bA_app,bA_app]; simp
 rw [e]; exact h
theorem FnScriptDrop_c (bs:List UInt8):PC Tryz.prog 5 [sl cU bs] (fun r => r = bv true):=by
 rcases Nat.lt_or_ge 1048576 bs.length with hb|hb
 ·refine pc_start Tryz.func5 Tryz.ntmps5 ?_
  repeat' (first|refine stpb ?_|(refine stp2 ?_ ?_ <;> intro hc hq <;> try (exfalso;omega))|fail)
  exact rq_ret rfl ⟨rfl,rfl⟩
 refine pc_start Tryz.func5 Tryz.ntmps5 ?_
 repeat' (first|(apply id_rw;first|(apply rx_call (k := 18);rfl;exact drawDrop_c bs hb;exact Pur.pf;rfl;(rintro _ ⟨p,k,rfl,hq1,hq2⟩ _))|(with_reducible apply rw_stop (d := 19)))|refine stpb ?_|(refine stp2 ?_ ?_ <;> intro hc hq <;> try (exfalso;omega))|fail)
 refine rw_go ?_
 by_cases h : validF p = true ∧ 0 ≤ k ∧ k < p.body.length
 ·obtain ⟨hv, hk0, hk1⟩ := h
  obtain ⟨n,rfl⟩ := Int.eq_ofNat_of_zero_le hk0
  have hn : n < p.body.length := by omega
  have hdl := delL_len hn
  have hdc : cntL (dropP p n).body ≤ cntL p.body := cntL_delL p.body n
  have h1 := DropI2_c p n hv hn (by omega) (by omega)
  have h2 := dropS_c p n hv hn (by omega) (by omega)
  have h3 := progSame_c (dropP p n) (by omega) (by show p.types.length ≤ 1048576;omega)
  by_cases h9 : (n : Int) ≤ 9
  ·have hz := tP_size hv
   have hvd := dropP_valid (k := n) hv
   have hz2 := tP_size hvd
   have z1 := bA_size (tP p)
   have z2 := bA_size (tP (dropP p n))
   have h4 := fmtP_c p hv (by omega) (by omega)
   have h5 := scDrop_c p n hv hn (by omega)
   have h6 := fmtP_c (dropP p n) hvd (by show p.types.length ≤ 1048576;omega) (by omega)
   have e : bA (([111, 107, 10] ++ [111, 107, 10]) ++ (tP (dropP p n) ++ [10])) = (⟨#[111, 107, 10, 111, 107, 10]⟩ ++ bA (tP (dropP p n))) ++ ⟨#[10]⟩ := by
    show _ = (bA [111,107,10,111,107,10] ++ bA (tP (dropP p n))) ++ bA [10]
    rw [bA_app,bA_app,List.append_assoc]; rfl
   repeat' (first|(apply id_rw;first|(apply rx_sbin (d := 72);rfl;rfl;exact sb_same e;rfl)|(apply rx_callE (k := 19);rfl;exact h1;exact Pur.pf;rfl)|(apply rx_callE (k := 20);rfl;exact h2;exact Pur.pf;rfl)|(apply rx_callE (k := 12);rfl;exact h3;exact Pur.pf;rfl)|(apply rx_callE (k := 13);rfl;exact h5;(rfl);rfl)|(apply rx_callE (k := 14);rfl;exact h4;exact Pur.pf;rfl)|(apply rx_callE (k := 14);rfl;exact h6;exact Pur.pf;rfl)|(apply rx_sbin;rfl;rfl;(exact sadd_ok (by (simp only [ByteArray.size_append,bsz_lit,List.length_cons,List.length_nil,letF_size,decF_size,bytF_size] <;> omega)));rfl)|(apply rx_addU;rfl;rfl;omega;rfl)|(apply rx_b2s (ns := [_]);rfl;rfl;rfl)|(apply rx_convU;rfl;omega;rfl))|refine stpb ?_|(refine stp2 ?_ ?_ <;> intro hc hq <;> try (exfalso;omega))|refine stpd ?_|fail)
   all_goals exact rq_ret rfl ⟨rfl,rfl⟩
  ·repeat' (first | (apply id_rw; first | (apply rx_callE (k := 19);rfl;exact h1;exact Pur.pf;rfl) | (apply rx_callE (k := 20);rfl;exact h2;exact Pur.pf;rfl) | (apply rx_callE (k := 12);rfl;exact h3;exact Pur.pf;rfl)) | refine stpb ?_ | (refine stp2 ?_ ?_ <;> intro hc hq <;> try (exfalso; omega))|fail)
   all_goals exact rq_ret rfl ⟨rfl,rfl⟩
 ·have h1 := DropI0_c p k h (by omega) (by omega)
  have h2 := dropS0_c p k h (by omega) (by omega)
  have h3 := progSame_c ⟨[],[]⟩ (by simp [cntL]) (by simp)
  repeat' (first|(apply id_rw;first|(apply rx_callE (k := 19);rfl;exact h1;exact Pur.pf;rfl)|(apply rx_callE (k := 20);rfl;exact h2;exact Pur.pf;rfl)|(apply rx_callE (k := 12);rfl;exact h3;(rfl);rfl))|refine stpb ?_|fail)
  all_goals exact rq_ret rfl ⟨rfl,rfl⟩
theorem itoaB_c (n:Int) (h0:0 ≤ n) (h1:n ≤ 99):PC Tryz.prog 133 [iv n] (fun r => r = sv (bA (dB n))) := itoa_c n h0 h1
theorem numbers_c (w:List UInt8) (l:List Int) (hw:w.length ≤ 100000) (hl:l.length ≤ 10000) (hn:∀ k,k < l.length → 0 ≤ l[k]! ∧ l[k]! ≤ 99):PC Tryz.prog 126 [sv (bA w),sl cI l] (fun r => r = sv (bA (w ++ (numB l ++ [10])))):=by
 have e0 : bA w = bA (w ++ numB (l.take 0)) := by simp [numB]
 rw [e0]
 refine pc_start Tryz.func126 Tryz.ntmps126 ?_
 repeat' (first|refine stpb ?_|fail)
 refine aw_loopA (σ := Nat) [7,8] [] (fun k => [(9,iv (k : Int)),(0,sv (bA (w ++ numB (l.take k))))]) (fun k => []) (fun k => k ≤ l.length) (fun k => l.length - k) (0) (Nat.zero_le _) ?_
 intro k hk
 have z1 := bA_size (w ++ numB (l.take k))
 have z2 := numB_len (l.take k)
 rw [List.length_append] at z1
 rw [List.length_take] at z2
 by_cases hkn : k < l.length
 ·have hb := hn k hkn
  have hi := itoaB_c l[k]! hb.1 hb.2
  have z3 := dB_len l[k]!
  have z4 := bA_size (dB l[k]!)
  have e : bA (w ++ numB (l.take k)) ++ (⟨#[32]⟩ ++ bA (dB l[k]!)) = bA (w ++ numB (l.take (k + 1))) := by
   show bA (w ++ numB (l.take k)) ++ (bA [32] ++ bA (dB l[k]!)) = _
   rw [take_succB l k hkn,numB_app,numB_one,bA_app,bA_app,List.append_assoc]; rfl
  repeat' (first|(apply id_rw;first|(apply rx_callE (k := 133);rfl;exact hi;(rfl);rfl)|(apply rx_sbin;rfl;rfl;(exact sadd_ok (by (simp only [ByteArray.size_append,bsz_lit,List.length_cons,List.length_nil,letF_size,decF_size,bytF_size] <;> omega)));rfl))|refine stpb ?_|(refine stp2 ?_ ?_ <;> intro hc hq <;> try (exfalso;omega))|fail)
  rw [e]
  (refine ex3 (k + 1) (Le.renA []) ?_ ?_)
  ·exact hkn
  ·omega
 ·have hke : k = l.length := by omega
  subst hke
  rw [List.take_length]
  have hli := line_c (w ++ numB l) (by have := numB_len l;rw [List.length_append]; omega)
  repeat' (first|(apply id_rw;(apply rx_callE (k := 42);rfl;exact hli;(rfl);rfl))|refine stpb ?_|(refine stp2 ?_ ?_ <;> intro hc hq <;> try (exfalso;omega))|fail)
  refine rq_ret rfl ⟨?_,rfl⟩
  rw [← List.append_assoc]; rfl
theorem rx_xpts {p:Prg}{x0:Operand}{i0:Nat}(ha0:ev (lk tsl) x0 = some (.optr i0 0)) (hH0:lkH hsl i0 = some ([sl cI p.types,sl cStmt p.body])) (hmc:MC Tryz.prog 121 [.optr 0 0] [(0,some ([sl cI p.types,sl cStmt p.body]))] 1 (fun _:Unit => True) (fun _ => sv (bA (psT (ptsF p) (ptsF p).length))) (fun _ => [(0,some ([sl cI p.types,sl cStmt p.body]))])) (hM:Nat.ble (nidl + 0) big = true) (hN:Nat.blt d N = true){md':Md}[hmd:MdA md (rOs [x0] ++ [.inr i0]) (List.map Sum.inr (List.map Prod.fst ([(i0,some ([sl cI p.types,sl cStmt p.body]))]:List (Nat × Option (List AV)))) ++ [.inl d]) md'] (kk:RW Tryz.prog N all Q md' rest ⟨(d,sv (bA (psT (ptsF p) (ptsF p).length))) :: tsl,wrH hsl [(i0,some ([sl cI p.types,sl cStmt p.body]))],nidl + 0,z0⟩):RW Tryz.prog N all Q md (⟨some d,.call ⟨.value (.func 121),#[x0],tys⟩,ty,pos,af,none⟩ :: rest) ⟨tsl,hsl,nidl,z0⟩:=by
 exact rx_mcallA (l := [x0]) [i0] 1 [(i0,some ([sl cI p.types,sl cStmt p.body]))] hmc (avs := [.optr i0 0]) (by simp only [evL,ha0]) rfl hM hN (md' := md') (hmd := hmd) kk
theorem xpts_c (p:Prg) (hv:validF p = true):MC Tryz.prog 121 [.optr 0 0] [(0,some ([sl cI p.types,sl cStmt p.body]))] 1 (fun _:Unit => True) (fun _ => sv (bA (psT (ptsF p) (ptsF p).length))) (fun _ => [(0,some ([sl cI p.types,sl cStmt p.body]))]):=by
 have hv2 := hv
 simp only [validF,Bool.and_eq_true,decide_eq_true_eq] at hv2
 obtain ⟨⟨t1,t2⟩,t3⟩ := hv2
 have hpo := points_c p (by omega)
 have w := WG.of_valid hv
 have hpl := w.pl
 have hpk := fun (i : Nat) (hi : i < (ptsF p).length) => pts_bd hv hi
 generalize ptsF p = pts at *
 refine mc_start Tryz.func121 Tryz.ntmps121 ?_
 repeat' (first|(apply id_rw;(apply rx_callE (k := 60);rfl;exact hpo;exact Pur.pf;rfl))|refine stpb ?_|fail)
 refine aw_loopA (σ := Nat) [10,11] [0] (fun k => [(12,iv (k : Int)),(3,sv (bA (psT pts k)))]) (fun k => []) (fun k => k ≤ pts.length) (fun k => pts.length - k) (0) (Nat.zero_le _) ?_
 intro k hk
 have z1 := bA_size (psT pts k)
 have z2 := psT_len w k hk
 by_cases hkn : k < pts.length
 ·have hi := itoaB_c (k : Int) (by omega) (by omega)
  have hp := ptI_c pts[k]! (hpk k hkn)
  have hnx := w.nx k hkn
  have hnl := w.nl k hkn
  have z3 := bA_size (dB (k : Int))
  have z4 := dB_len (k : Int)
  have z5 := ptT_size pts[k]!
  have z6 := pB_len pts[k]!
  have eh : ((bA (dB (k : Int)) ++ ⟨#[32]⟩) ++ ptT pts[k]!) ++ ⟨#[32, 45, 62]⟩ = bA (dB (k : Int) ++ (32 :: (pB pts[k]! ++ [32, 45, 62]))) := by
   show ((bA (dB (k : Int)) ++ bA [32]) ++ bA (pB pts[k]!)) ++ bA [32,45,62] = _
   rw [bA_app,bA_app,bA_app]; simp
  have hnu := numbers_c (dB (k : Int) ++ (32 :: (pB pts[k]! ++ [32,45,62]))) pts[k]!.next (by simp only [List.length_append,List.length_cons,List.length_nil]; omega) (by omega) (fun j hj => by have := hnx _ (getB_mem _ j hj);omega)
  have z7 := numB_len pts[k]!.next
  have z8 := bA_size ((dB (k : Int) ++ (32 :: (pB pts[k]! ++ [32,45,62]))) ++ (numB pts[k]!.next ++ [10]))
  simp only [List.length_append,List.length_cons,List.length_nil] at z8
  rw [← eh] at hnu
  have es : bA (psT pts k) ++ bA ((dB (k : Int) ++ (32 :: (pB pts[k]! ++ [32,45,62]))) ++ (numB pts[k]!.next ++ [10])) = bA (psT pts (k + 1)) := by rw [bA_app,psT_succ]; rfl
  repeat' (first|(apply id_rw;first|(apply rx_callE (k := 133);rfl;exact hi;(rfl);rfl)|(apply rx_callE (k := 183);rfl;exact hp;exact Pur.pf;rfl)|(apply rx_callE (k := 126);rfl;exact hnu;exact Pur.pf;rfl)|(apply rx_sbin;rfl;rfl;(exact sadd_ok (by (first|omega|(simp only [ByteArray.size_append,bsz_lit,List.length_cons,List.length_nil,letF_size,decF_size,bytF_size] <;> omega))));rfl))|refine stpb ?_|(refine stp2 ?_ ?_ <;> intro hc hq <;> try (exfalso;omega))|refine stpd ?_|fail)
  rw [es]
  (refine ex3 (k + 1) (Le.renA []) ?_ ?_)
  ·exact hkn
  ·omega
 ·have hke : k = pts.length := by omega
  subst hke
  repeat' (first|refine stpb ?_|(refine stp2 ?_ ?_ <;> intro hc hq <;> try (exfalso;omega))|fail)
  (refine rq_ret rfl ?_; refine mc_ret () trivial ?_ ⟨sE ?_,trivial⟩)
  ·rfl
  ·rfl
theorem alonePts_c (p:Prg) (hv:validF p = true):MC Tryz.prog 82 [.optr 0 0,sv (bA [112,111,105,110,116,115])] [(0,some [sl cI p.types,sl cStmt p.body])] 1 (fun _:Unit => True) (fun _ => sv (bA (psT (ptsF p) (ptsF p).length))) (fun _ => [(0,some [sl cI p.types,sl cStmt p.body])]):=by
 have hp := xpts_c p hv
 refine mc_start Tryz.func82 Tryz.ntmps82 ?_
 repeat' (first|(apply id_rw;first|(apply rx_sbin;rfl;rfl;(first|exact sb_lt (b := false) (by decide)|exact sb_lt (b := true) (by decide));rfl)|(apply rx_xpts (p := p);rfl;rfl;exact hp;rfl;rfl))|refine stpb ?_|fail)
 (refine rq_ret rfl ?_; refine mc_ret () trivial ?_ ⟨sE ?_,trivial⟩)
 ·rfl
 ·rfl
theorem drawPO_c (bs:List UInt8) (hb:bs.length ≤ 1048576):PC Tryz.prog 21 [sl cU bs] (fun r => ∃ q:Prg,r = aPrg q ∧ cntL q.body ≤ 20000 ∧ q.types.length ≤ 1000):=by
 have hb2 : (bs.take 2000).length ≤ 2000 := by rw [List.length_take]; omega
 refine pc_start Tryz.func21 Tryz.ntmps21 ?_
 repeat' (first|(apply id_rw;first|(apply rx_prgcall (k := 59);exact branch_c (bs.take 2000) 0 hb2 (by decide);rfl;rfl;rfl;rfl;rfl;(rintro ⟨q2,p2⟩ ⟨hr1,hr2,hr3⟩);(dsimp only at hr1 hr2 hr3))|(apply rx_l17Open;rfl;(apply l17Open_c <;> (assumption));rfl;rfl))|refine stpb ?_|fail)
 exact rq_ret (l := [aPrg q2]) rfl ⟨⟨q2,rfl,by omega,by omega⟩,Pur.pf⟩
theorem bcIntsE_c (L:List Int) (hl:L.length ≤ 1048576):PC Tryz.prog 61 [sl cI L,sl cI L] (fun r => r = bv true):=by
 refine pc_start Tryz.func61 Tryz.ntmps61 ?_
 repeat' (first|refine stpb ?_|(refine stp2 ?_ ?_ <;> intro hc hq <;> try (exfalso;omega))|fail)
 all_goals try exact absurd trivial (by assumption : ¬ True)
 refine aw_loopA (σ := Nat) [0,1] [] (fun k => [(5,iv (k : Int))]) (fun k => []) (fun k => k ≤ L.length) (fun k => L.length - k) (0) (Nat.zero_le _) ?_
 intro k hk
 repeat' (first|refine stpb ?_|(refine stp2 ?_ ?_ <;> intro hc hq <;> try (exfalso;omega))|refine stpd ?_|fail)
 all_goals first
  | (exfalso;exact (by assumption : ¬ True) trivial)
  | exact rq_ret rfl ⟨rfl,rfl⟩
  | ((refine ex3 (k + 1) (Le.renA []) ?_ ?_)
     ·omega
     ·omega)
theorem bcPts_c (L:List Pnt) (hl:L.length ≤ 1048576) (hn:∀ k,k < L.length → L[k]!.next.length ≤ 100):PC Tryz.prog 23 [sl cPnt L,sl cPnt L] (fun r => r = bv true):=by
 refine pc_start Tryz.func23 Tryz.ntmps23 ?_
 repeat' (first|refine stpb ?_|(refine stp2 ?_ ?_ <;> intro hc hq <;> try (exfalso;omega))|fail)
 all_goals try exact absurd trivial (by assumption : ¬ True)
 refine aw_loopA (σ := Nat) [0,1] [] (fun k => [(5,iv (k : Int))]) (fun k => []) (fun k => k ≤ L.length) (fun k => L.length - k) (0) (Nat.zero_le _) ?_
 intro k hk
 by_cases hkn : k < L.length
 ·have hi := bcIntsE_c L[k]!.next (by have := hn k hkn; omega)
  repeat' (first|(apply id_rw;(apply rx_callE (k := 61);rfl;exact hi;exact Pur.pf;rfl))|refine stpb ?_|(refine stp2 ?_ ?_ <;> intro hc hq <;> try (exfalso;omega))|(refine stp3 ?_ ?_ <;> intro hg hq <;> try (exfalso;omega))|refine stpd ?_|fail)
  all_goals first
   | (exfalso;exact (by assumption : ¬ True) trivial)
   | ((refine ex3 (k + 1) (Le.renA []) ?_ ?_)
      ·omega
      ·omega)
 ·repeat' (first | refine stpb ?_ | (refine stp2 ?_ ?_ <;> intro hc hq <;> try (exfalso; omega))|fail)
  all_goals exact rq_ret rfl ⟨rfl,rfl⟩
theorem scPts_c (p:Prg) (hv:validF p = true):PC Tryz.prog 13 [sv ((⟨#[112,114,111,103,114,97,109,32]⟩ ++ bA (tP p)) ++ ⟨#[10,112,111,105,110,116,115,10]⟩)] (fun r => r = sv (bA ([111,107,10] ++ psT (ptsF p) (ptsF p).length))):=by
 have hz := tP_size hv
 have w := WG.of_valid hv
 have hpl := w.pl
 have hln := psT_len w _ (Nat.le_refl _)
 have h1 := doProg_c ⟨[],[]⟩ p hv
 have h2 := doAlone_c [112,111,105,110,116,115] (psT (ptsF p) (ptsF p).length) p p (by decide) (alonePts_c _ hv)
 have h := script2_c (a := [112,114,111,103,114,97,109] ++ 32 :: tP p) (b := [112,111,105,110,116,115]) (by simp [tP_no10 hv]) (by decide) (by simp) (by simp) h1 h2 (by simp only [List.length_append,List.length_cons,List.length_nil]; omega) (by simp only [List.length_cons,List.length_nil]; omega)
 have e : ((⟨#[112, 114, 111, 103, 114, 97, 109, 32]⟩ : ByteArray) ++ bA (tP p)) ++ ⟨#[10, 112, 111, 105, 110, 116, 115, 10]⟩ = bA (([112, 114, 111, 103, 114, 97, 109] ++ 32 :: tP p) ++ 10 :: ([112, 111, 105, 110, 116, 115] ++ [10])) := by
  show (bA [112,114,111,103,114,97,109,32] ++ bA (tP p)) ++ bA [10,112,111,105,110,116,115,10] = _
  rw [bA_app,bA_app]; rfl
 rw [e]; exact h
theorem cnt_step (O:List UInt8) (k:Nat) (h:k < O.length):(O.take (k + 1)).count 10 = (O.take k).count 10 + if (bA O)[(k:Int).toNat]!.toNat = 10 then 1 else 0:=by
 rw [take_succB O k h,List.count_append,Int.toNat_natCast,bA_get O k h,List.count_cons,List.count_nil]
 by_cases e : O[k]!.toNat = 10
 ·have e2 : O[k]! = 10 := UInt8.toNat_inj.1 e
  rw [if_pos e,e2]; rfl
 ·have e2 : ¬ O[k]! = 10 := fun q => e (by rw [q]; rfl)
  have e3 : (O[k]! == 10) = false := by simpa only [beq_eq_false_iff_ne] using e2
  rw [if_neg e,e3]; rfl
theorem FnScriptPoints_c (bs:List UInt8):PC Tryz.prog 6 [sl cU bs] (fun r => r = bv true):=by
 rcases Nat.lt_or_ge 1048576 bs.length with hb|hb
 ·refine pc_start Tryz.func6 Tryz.ntmps6 ?_
  repeat' (first|refine stpb ?_|(refine stp2 ?_ ?_ <;> intro hc hq <;> try (exfalso;omega))|fail)
  exact rq_ret rfl ⟨rfl,rfl⟩
 refine pc_start Tryz.func6 Tryz.ntmps6 ?_
 repeat' (first|(apply id_rw;first|(apply rx_call (k := 21);rfl;exact drawPO_c bs hb;exact Pur.pf;rfl;(rintro _ ⟨p,rfl,hq1,hq2⟩ _))|(with_reducible apply rw_stop (d := 13)))|refine stpb ?_|(refine stp2 ?_ ?_ <;> intro hc hq <;> try (exfalso;omega))|fail)
 refine rw_go ?_
 have h0 := validI_c p (by omega) (by omega)
 have h1 := PointsOfI_c p (by omega) (by omega)
 have h2 := PointsOfS7_c p (by omega) (by omega)
 cases hv : validF p with
 | true =>
  rw [hv] at h0
  rw [hv,if_pos rfl] at h1 h2
  have hz := tP_size hv
  have z1 := bA_size (tP p)
  have w := WG.of_valid hv
  have hpl := w.pl
  have hln := psT_len w _ (Nat.le_refl _)
  have h3 := bcPts_c (ptsF p) (by omega) (fun k hk => by have := w.nl k hk;omega)
  have h4 := fmtP_c p hv (by omega) (by omega)
  have h5 := scPts_c p hv
  have hcn := psT_cnt w (fun i hi => pts_bd hv hi) _ (Nat.le_refl _)
  obtain ⟨O,hO⟩ : ∃ O,O = [111,107,10] ++ psT (ptsF p) (ptsF p).length := ⟨_,rfl⟩
  have hc : O.count 10 = (ptsF p).length + 1 := by rw [hO,List.count_append,hcn]; show 1 + _ = _; omega
  have hl : O.length ≤ 10000 := by rw [hO,List.length_append]; simp only [List.length_cons,List.length_nil]; omega
  have z2 := bA_size O
  rw [← hO] at h5
  generalize ptsF p = pts at *
  repeat' (first|(apply id_rw;first|(apply rx_callE (k := 22);rfl;exact h1;exact Pur.pf;rfl)|(apply rx_callE (k := 24);rfl;exact h2;exact Pur.pf;rfl)|(apply rx_callE (k := 23);rfl;exact h3;exact Pur.pf;rfl)|(apply rx_callE (k := 14);rfl;exact h4;exact Pur.pf;rfl)|(apply rx_callE (k := 17);rfl;exact h0;exact Pur.pf;rfl)|(apply rx_callE (k := 13);rfl;exact h5;(rfl);rfl)|(apply rx_sbin;rfl;rfl;(exact sadd_ok (by (simp only [ByteArray.size_append,bsz_lit,List.length_cons,List.length_nil,letF_size,decF_size,bytF_size] <;> omega)));rfl))|refine stpb ?_|fail)
  refine aw_loopA (σ := Nat) [4,5] [] (fun k => [(7,iv (k : Int)),(6,iv ((O.take k).count 10 : Nat))]) (fun k => []) (fun k => k ≤ O.length) (fun k => O.length - k) (0) (Nat.zero_le _) ?_
  intro k hk
  by_cases hkn : k < O.length
  ·have hs := cnt_step O k hkn
   have hcl := List.count_le_length (a := (10 : UInt8)) (l := O.take k)
   rw [List.length_take] at hcl
   by_cases hb10 : (bA O)[(k : Int).toNat]!.toNat = 10
   ·rw [if_pos hb10] at hs
    have e1 : ((List.count 10 (O.take k) : Nat) : Int) + 1 = ((List.count 10 (O.take (k + 1)) : Nat) : Int) := by rw [hs]; omega
    repeat' (first|(apply id_rw;(apply rx_indexS;rfl;rfl;omega;rfl))|refine stpb ?_|(refine stp2 ?_ ?_ <;> intro hc hq <;> try (exfalso;omega))|fail)
    rw [e1]
    (refine ex3 (k + 1) (Le.renA []) ?_ ?_)
    ·omega
    ·omega
   ·rw [if_neg hb10] at hs
    have e1 : ((List.count 10 (O.take k) : Nat) : Int) = ((List.count 10 (O.take (k + 1)) : Nat) : Int) := by rw [hs]; omega
    repeat' (first|(apply id_rw;(apply rx_indexS;rfl;rfl;omega;rfl))|refine stpb ?_|(refine stp2 ?_ ?_ <;> intro hc hq <;> try (exfalso;omega))|fail)
    rw [e1]
    (refine ex3 (k + 1) (Le.renA []) ?_ ?_)
    ·omega
    ·omega
  ·have hke : k = O.length := by omega
   subst hke
   rw [List.take_length,hc]
   repeat' (first|refine stpb ?_|(refine stp2 ?_ ?_ <;> intro hc hq <;> try (exfalso;omega))|fail)
   exact rq_ret rfl ⟨congrArg bv (decide_eq_true (by omega)),rfl⟩
 | false =>
  rw [hv] at h0
  rw [hv,if_neg (by simp)] at h1 h2
  have h3 := bcPts_c [] (by simp) (by simp)
  repeat' (first|(apply id_rw;first|(apply rx_callE (k := 22);rfl;exact h1;exact Pur.pf;rfl)|(apply rx_callE (k := 24);rfl;exact h2;exact Pur.pf;rfl)|(apply rx_callE (k := 23);rfl;exact h3;(rfl);rfl)|(apply rx_callE (k := 17);rfl;exact h0;exact Pur.pf;rfl))|refine stpb ?_|fail)
  all_goals exact rq_ret rfl ⟨rfl,rfl⟩
end Go.Proofs.YtjnhlgpbojggnaaGreatDoor
