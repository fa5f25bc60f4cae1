/-
 A part of the proofs over this program: rules and contracts of its functions (the contracts).
-/
import Derived.Test.YtjnhlgpbojggnaaGreatDoorS2B03
set_option linter.unusedVariables false
set_option linter.unusedSimpArgs false
set_option maxHeartbeats 8000000
set_option maxRecDepth 4000
attribute [local irreducible] Go.AL.RW Go.AL.AW Go.AL.Stop
namespace Go.Proofs.YtjnhlgpbojggnaaGreatDoor
open Go.AL Go.RowKit
variable {N : Nat} {Q : Exit → AS → Prop} {all : Array Oper} {rest : List Oper} {tsl : List (Nat × AV)} {hsl : List (Nat × Option (List AV))} {nidl : Nat} {z0 : Lo} {md : Md} {d : Nat} {ty : TypeId} {pos : String} {af : Array Edge} {tys : Array TypeId}
theorem do_readl {ts:List Int}{s:Mc}{x:Pnt}:(doF ts s x).1.read.length ≤ s.read.length + 1:=by
 by_cases h : x.op = 11
 ·rw [do_11 h,fin_read]; omega
 ·exact do_read1 h
theorem run_readl (ts:List Int) (pts:List Pnt):∀ (l:List Nat) (s:Mc) (last:Nat),(runF ts pts l s last).1.read.length ≤ s.read.length + l.length
 | [],s,last => by unfold runF;simp
 | a :: l, s, last => by
  have h := do_readl (ts := ts) (s := s) (x := pts[a]!)
  unfold runF;split
  ·dsimp only;omega
  ·split
   ·have := run_readl ts pts l (doF ts s pts[a]!).1 a
    rw [List.length_cons]; omega
   ·rw [List.length_cons]; dsimp only;omega
theorem runP_readl {ts:List Int}{pts:List Pnt}{cs:List Int}{n:Nat}(hn:n ≤ 150):(runP ts pts cs n).1.read.length ≤ 151:=by
 have h := run_readl ts pts (wayF pts n 0 cs).1 (mc0 ts.length) 0
 have h2 := way_len (pts := pts) n 0 cs
 have h3 : (mc0 ts.length).read.length = 0 := rfl
 unfold runP;omega
theorem mapT:Go.Proofs.Tryz.prog.underlying 272 = some (.map 3 4) := by kernel_rfl
theorem intT:Go.Proofs.Tryz.prog.underlying 3 = some (.int .i64) := by kernel_rfl
theorem zroT:(Go.Proofs.Tryz.prog.info? 4).bind (·.zero) = some (.bool false) := by kernel_rfl
theorem win_t {a b c:Int}(h:a ≤ b ∧ b ≤ c):(!(decide (a ≤ b) && decide (b ≤ c))) = false := by simp [h.1,h.2]
theorem CellsValidI_c (m:List Cl) (hm:OkM m):PC Tryz.prog 195 [sl cCl m] (fun r => r = bv true):=by
 have hml := hm.l
 refine pc_start Tryz.func195 Tryz.ntmps195 ?_
 repeat' (first|refine stpb ?_|(refine stp2 ?_ ?_ <;> intro hc hq <;> try (exfalso;omega))|fail)
 all_goals (try (exfalso;omega))
 refine aw_loopA (σ := Nat) [11,12] [] (fun i => [(13,iv (i : Int))]) (fun i => []) (fun i => i ≤ m.length) (fun i => m.length - i) (0) (Nat.zero_le _) ?_
 rintro i hi
 by_cases hin : i < m.length
 ·have hc := (OkM_iff m).1 hm |>.2 i hin
  obtain ⟨h1,h2,h3,h4,h5⟩ := (OkC_iff _).1 hc
  repeat' (first|(apply id_rw;(apply rx_callE (k := 35);rfl;(apply within_c);(rfl);rfl))|(apply id_aw;with_reducible apply aw_stopM)|refine stpb ?_|(refine stp2 ?_ ?_ <;> intro hc hq <;> try (exfalso;omega))|(refine stp3 ?_ ?_ <;> intro hg hq <;> try (exfalso;omega))|fail)
  ·exfalso
   have hu : m[i]!.stk[Int.toNat 0]!.uq = false := by assumption
   rw [show Int.toNat 0 = 0 from rfl,h4] at hu;exact absurd hu (by decide)
  ·refine aw_goM (aw_mapIn rfl (fun r => ?_))
   refine rwm_last ?_
   repeat' (first|refine stp1 ?_|fail)
   refine ⟨rfl,rfl,?_⟩
   refine awm_seq (awm_lift ?_)
   repeat' (first|refine stpb ?_|fail)
   show AWM _ _ _ _ _ _ _
   refine awm_block ?_
   refine awm_loopK (σ := Nat) [4,5,11,12,13,44,45] [(4,_),(5,_),(11,_),(12,_),(13,_),(44,_),(45,_)] [0] [(0,some _)] (fun k => [(46,iv (k : Int))]) (fun k => []) (fun k => (m[i]!.stk.take k).map (·.id)) (fun k => k ≤ m[i]!.stk.length) (fun k => m[i]!.stk.length - k) (0) (Nat.zero_le _) (rfl) rfl rfl (by repeat' (first|exact trivial|refine And.intro rfl ?_)) (by repeat' (exact trivial)) ?_
   rintro k hk
   refine awm_seq (awm_lift ?_)
   repeat' (first|refine stpb ?_|fail)
   show AWM _ _ _ _ _ _ _
   refine awm_seq (awm_cond rfl (fun hb => awm_skip ?_) (fun hb => awm_exit ?_))
   ·show AWM _ _ _ _ _ _ _
    have hkl : k < m[i]!.stk.length := by have := of_decide_eq_true hb;omega
    obtain ⟨g1,g2,g3⟩ := h5 k hkl
    have hw := win_t (a := 0) (b := m[i]!.stk[k]!.id) (c := m[i]!.next - 1) ⟨g1,by omega⟩
    have hni : m[i]!.stk[k]!.id ∉ (m[i]!.stk.take k).map (·.id) := fun q => by
     obtain ⟨t,ht,e⟩ := List.mem_map.1 q
     obtain ⟨j,hj,rfl⟩ := List.getElem_of_mem ht
     rw [List.length_take] at hj
     have f := tgIx_first (stk := m[i]!.stk) (id := m[i]!.stk[k]!.id) (by omega) j (by omega)
     rw [getB _ _ (by omega)] at f
     rw [List.getElem_take] at e
     exact f e
    refine awm_seq (awm_block (awm_seq (awm_lift ?_)))
    repeat' (first|refine stpb ?_|fail)
    show AWM _ _ _ _ _ _ _
    refine awm_seq (awm_seq (awm_region ?_))
    refine rwm_lift (l1 := [_,_,_,_,_,_,_,_,_,_,_]) (l2 := [_,_]) ?_
    repeat' (first|(apply id_rw;(apply rx_callE (k := 35);rfl;(apply within_c);(rfl);rfl))|refine stp1 ?_|fail)
    refine ⟨rfl,?_⟩
    refine rwm_guard rfl rfl hw ?_
    refine rwm_lookup mapT intT zroT rfl rfl hni rfl ?_
    refine rwm_last ?_
    repeat' (first|refine stp1 ?_|fail)
    refine ⟨rfl,?_⟩
    show AWM _ _ _ _ _ _ _
    refine awm_cond rfl (fun h => by cases h) (fun _ => awm_skip ?_)
    show AWM _ _ _ _ _ _ _
    refine awm_region ?_
    refine rwm_lift (l1 := [_,_,_]) (l2 := [_]) ?_
    repeat' (first|refine stp1 ?_|fail)
    refine ⟨rfl,?_⟩
    refine rwm_update mapT intT zroT rfl rfl hni ?_
    refine rwm_nil ?_
    show AWM _ _ _ _ _ _ _
    refine awm_lift ?_
    repeat' (first|refine stpb ?_|fail)
    refine ⟨k + 1,by omega,by omega,?_,?_⟩
    ·refine Le.ren [(0,0)] rfl (by decide) ?_ ?_ <;> repeat' (first|exact trivial|refine And.intro ⟨_,rfl,?_⟩ ?_|refine And.intro ⟨_,_,rfl,rfl,?_⟩ ?_|exact Or.inr rfl|refine Or.inl ⟨?_,(by first|rfl|exact pur_sl _ _|exact Pur.pf)⟩|rfl)
    ·rw [take_succB _ k hkl,List.map_append]; rfl
   ·have hkl : k = m[i]!.stk.length := by have := of_decide_eq_false hb; omega
    refine bM_here2 ?_
    show blkQ 1 _ _ _
    repeat' (first|refine stpb ?_|fail)
    (refine ex3 (i + 1) (Le.renA []) ?_ ?_)
    ·omega
    ·omega
 ·repeat' (first | refine stpb ?_ | (refine stp2 ?_ ?_ <;> intro hc hq <;> try (exfalso; omega))|fail)
  refine rq_ret rfl ⟨rfl,rfl⟩
theorem Le.bump {ts:List (Nat × AV)}{hs:List (Nat × Option (List AV))}{n:Nat}{z0:Lo}(k:Nat):Le ⟨ts,hs,n,z0⟩ ⟨ts,hs,n + k,z0⟩ := Le.of (fun _ _ h => h) (fun _ _ h => h) (Nat.le_add_right _ _) rfl
theorem rx_cloneC {m:List Cl}{x0:Operand}(ha0:ev (lk tsl) x0 = some (sl cCl m)) (hmc:MC Tryz.prog 270 [sl cCl m] [] 0 (fun _:Unit => True) (fun _ => .own 1 0 m.length 4) (fun _ => [(1,some (flat cCl m))])) (hM:Nat.ble (nidl + 2) big = true) (hN:Nat.blt d N = true){md':Md}[hmd:MdA md (rOs [x0] ++ []) (List.map Sum.inr (List.map Prod.fst ([((nidl + 1),some (flat cCl m))]:List (Nat × Option (List AV)))) ++ [.inl d]) md'] (kk:RW Tryz.prog N all Q md' rest ⟨(d,.own (nidl + 1) 0 m.length 4) :: tsl,wrH hsl [((nidl + 1),some (flat cCl m))],nidl + 2,z0⟩):RW Tryz.prog N all Q md (⟨some d,.call ⟨.value (.func 270),#[x0],tys⟩,ty,pos,af,none⟩ :: rest) ⟨tsl,hsl,nidl,z0⟩:=by
 exact rx_mcallA (l := [x0]) [] 2 [((nidl + 1),some (flat cCl m))] hmc (avs := [sl cCl m]) (by simp only [evL,ha0]) rfl hM hN (md' := md') (hmd := hmd) kk
theorem cloneC_c (m:List Cl) (hl:m.length ≤ 1048576):MC Tryz.prog 270 [sl cCl m] [] 0 (fun _:Unit => True) (fun _ => .own 1 0 m.length 4) (fun _ => [(1,some (flat cCl m))]):=by
 refine mc_start Tryz.func270 Tryz.ntmps270 ?_
 repeat' (first|(apply id_rw;(apply rx_eqNil;rfl;rfl;(intro b hb)))|refine stpb ?_|(refine stp2 ?_ ?_ <;> intro hc hq <;> try (exfalso;omega))|fail)
 ·have h0 : m = [] := List.eq_nil_of_length_eq_zero (hb (by assumption))
  subst h0
  refine rq_le (Le.bump 1) ?_
  refine rq_le (Le.nilOwn (d := 2) 4 rfl (by decide)) ?_
  (refine rq_ret rfl ?_; refine mc_ret () trivial ?_ ⟨sE ?_,trivial⟩)
  ·rfl
  ·rfl
 ·(refine rq_ret rfl ?_; refine mc_ret () trivial ?_ ⟨sE ?_, trivial⟩)
  ·show AV.own 1 0 (0 + m.length) 4 = _; rw [Nat.zero_add]
  ·rfl
theorem rx_cloneT {m:List Tg}{x0:Operand}(ha0:ev (lk tsl) x0 = some (sl cTg m)) (hmc:MC Tryz.prog 271 [sl cTg m] [] 0 (fun _:Unit => True) (fun _ => .own 1 0 m.length 2) (fun _ => [(1,some (flat cTg m))])) (hM:Nat.ble (nidl + 2) big = true) (hN:Nat.blt d N = true){md':Md}[hmd:MdA md (rOs [x0] ++ []) (List.map Sum.inr (List.map Prod.fst ([((nidl + 1),some (flat cTg m))]:List (Nat × Option (List AV)))) ++ [.inl d]) md'] (kk:RW Tryz.prog N all Q md' rest ⟨(d,.own (nidl + 1) 0 m.length 2) :: tsl,wrH hsl [((nidl + 1),some (flat cTg m))],nidl + 2,z0⟩):RW Tryz.prog N all Q md (⟨some d,.call ⟨.value (.func 271),#[x0],tys⟩,ty,pos,af,none⟩ :: rest) ⟨tsl,hsl,nidl,z0⟩:=by
 exact rx_mcallA (l := [x0]) [] 2 [((nidl + 1),some (flat cTg m))] hmc (avs := [sl cTg m]) (by simp only [evL,ha0]) rfl hM hN (md' := md') (hmd := hmd) kk
theorem cloneT_c (m:List Tg) (hl:m.length ≤ 1048576):MC Tryz.prog 271 [sl cTg m] [] 0 (fun _:Unit => True) (fun _ => .own 1 0 m.length 2) (fun _ => [(1,some (flat cTg m))]):=by
 refine mc_start Tryz.func271 Tryz.ntmps271 ?_
 repeat' (first|(apply id_rw;(apply rx_eqNil;rfl;rfl;(intro b hb)))|refine stpb ?_|(refine stp2 ?_ ?_ <;> intro hc hq <;> try (exfalso;omega))|fail)
 ·have h0 : m = [] := List.eq_nil_of_length_eq_zero (hb (by assumption))
  subst h0
  refine rq_le (Le.bump 1) ?_
  refine rq_le (Le.nilOwn (d := 2) 2 rfl (by decide)) ?_
  (refine rq_ret rfl ?_; refine mc_ret () trivial ?_ ⟨sE ?_,trivial⟩)
  ·rfl
  ·rfl
 ·(refine rq_ret rfl ?_; refine mc_ret () trivial ?_ ⟨sE ?_, trivial⟩)
  ·show AV.own 1 0 (0 + m.length) 2 = _; rw [Nat.zero_add]
  ·rfl
theorem touch1_c (t:Tg) (c g:Int):PC Tryz.prog 273 [aTg t,.iptr [iv c,iv g]] (fun r => r = bv (decide (t.id = g))):=by
 refine pc_start Tryz.func273 Tryz.ntmps273 ?_
 repeat' (first|refine stpb ?_|fail)
 exact rq_ret rfl ⟨rfl,rfl⟩
theorem touch2_c (t:Tg):PC Tryz.prog 275 [aTg t] (fun r => r = bv t.uq):=by
 refine pc_start Tryz.func275 Tryz.ntmps275 ?_
 repeat' (first|refine stpb ?_|fail)
 exact rq_ret rfl ⟨rfl,rfl⟩
theorem idxT1_c (stk:List Tg) (c g:Int) (hl:stk.length ≤ 1048576):PC Tryz.prog 272 [sl cTg stk,.clos (.func 273) [] [.iptr [iv c,iv g]]] (fun r => r = iv (tgIx stk g)):=by
 refine pc_start Tryz.func272 Tryz.ntmps272 ?_
 repeat' (first|refine stpb ?_|fail)
 refine aw_loopA (σ := Nat) [0,1,7] [] (fun k => [(8,iv (k : Int))]) (fun k => []) (fun k => k ≤ stk.length ∧ ∀ j,j < k → stk[j]!.id ≠ g) (fun k => stk.length - k) (0) ⟨by omega,by omega⟩ ?_
 rintro k ⟨hk,hall⟩
 by_cases hkn : k < stk.length
 ·have hcl := touch1_c stk[k]! c g
  repeat' (first|(apply id_rw;(apply rx_callC;rfl;rfl;infer_instance;rfl;(apply hcl);(rfl);rfl))|refine stpb ?_|(refine stp2 ?_ ?_ <;> intro hc hq <;> try (exfalso;omega))|fail)
  ·refine rq_ret rfl ⟨?_, rfl⟩
   simp only [oneOf]; rw [tgIx_eq hkn (by assumption) hall]
  ·(refine ex3 (k + 1) (Le.renA []) ?_ ?_)
   ·refine ⟨by omega, fun j hj => ?_⟩
    by_cases e : j = k
    ·subst e;assumption
    ·exact hall j (by omega)
   ·omega
 ·repeat' (first | refine stpb ?_ | (refine stp2 ?_ ?_ <;> intro hc hq <;> try (exfalso; omega))|fail)
  refine rq_ret rfl ⟨?_,rfl⟩
  have h2 : tgIx stk g < 0 := tgIx_none.2 (fun t ht => by obtain ⟨j,hj,rfl⟩ := List.getElem_of_mem ht;have := hall j (by omega);rwa [getB _ _ hj] at this)
  have hb := tgIx_bd stk g
  simp only [oneOf]; rw [show tgIx stk g = -1 by omega]
def uqIx (xs : List Tg) : Int := match xs.findIdx? (fun t => t.uq) with | some i => i | none => -1
theorem idxT2_c (stk:List Tg) (hl:stk.length ≤ 1048576):PC Tryz.prog 272 [sl cTg stk,.v (.func (.func 275) #[] #[])] (fun r => r = iv (uqIx stk)):=by
 refine pc_start Tryz.func272 Tryz.ntmps272 ?_
 repeat' (first|refine stpb ?_|fail)
 refine aw_loopA (σ := Nat) [0,1,7] [] (fun k => [(8,iv (k : Int))]) (fun k => []) (fun k => k ≤ stk.length ∧ ∀ j,j < k → stk[j]!.uq = false) (fun k => stk.length - k) (0) ⟨by omega,by omega⟩ ?_
 rintro k ⟨hk,hall⟩
 by_cases hkn : k < stk.length
 ·have hcl := touch2_c stk[k]!
  repeat' (first|(apply id_rw;(apply rx_callC;rfl;rfl;infer_instance;rfl;(apply hcl);(rfl);rfl))|refine stpb ?_|(refine stp2 ?_ ?_ <;> intro hc hq <;> try (exfalso;omega))|fail)
  ·refine rq_ret rfl ⟨?_, rfl⟩
   have hu : stk[k]!.uq = true := by assumption
   have : stk.findIdx? (fun t => t.uq) = some k := by
    rw [List.findIdx?_eq_some_iff_getElem]
    refine ⟨hkn,by rw [← getB stk k hkn]; exact hu,fun j hj => ?_⟩
    have := hall j hj;rw [getB stk j (by omega)] at this;rw [this]; decide
   simp only [oneOf,uqIx,this]
  ·have hu : stk[k]!.uq = false := by assumption
   (refine ex3 (k + 1) (Le.renA []) ?_ ?_)
   ·refine ⟨by omega, fun j hj => ?_⟩
    by_cases e : j = k
    ·subst e;exact hu
    ·exact hall j (by omega)
   ·omega
 ·repeat' (first | refine stpb ?_ | (refine stp2 ?_ ?_ <;> intro hc hq <;> try (exfalso; omega))|fail)
  refine rq_ret rfl ⟨?_,rfl⟩
  have : stk.findIdx? (fun t => t.uq) = none := by
   rw [List.findIdx?_eq_none_iff]
   intro x hx
   obtain ⟨j,hj,rfl⟩ := List.getElem_of_mem hx
   have := hall j (by omega);rw [getB stk j hj] at this;exact this
  simp only [oneOf,uqIx,this]
theorem st_tg {xs:List Tg}{k:Nat}{a:Int}{b:Bool}(hk:k < xs.length):spl (flat cTg xs) (0 + k * 2) [iv a,bv b] = flat cTg (xs.set k ⟨a,b⟩) := st_flat0 hk rfl
theorem take_spl {cs new:List AV}{k:Nat}(h:k ≤ cs.length):(spl cs (0 + k) new).take k = cs.take k:=by
 unfold spl
 rw [Nat.zero_add,List.append_assoc,List.take_left' (by rw [List.length_take]; omega)]
def shr (xs : List Tg) : List Tg := xs.filter (fun t => !t.uq)
theorem uqIx_none {xs:List Tg}(h:uqIx xs = -1):shr xs = xs:=by
 unfold uqIx at h
 split at h
 ·omega
 ·rename_i hn
  rw [List.findIdx?_eq_none_iff] at hn
  unfold shr
  rw [List.filter_eq_self]
  intro t ht
  have := hn t ht
  simp [this]
theorem uqIx_some {xs:List Tg}{i:Nat}(h:uqIx xs = (i:Int)):i < xs.length ∧ xs[i]!.uq = true ∧ shr (xs.take (i + 1)) = xs.take i:=by
 unfold uqIx at h
 split at h
 ·rename_i k hk
  obtain ⟨h1,h2,h3⟩ := List.findIdx?_eq_some_iff_getElem.1 hk
  have e : k = i := by omega
  subst e
  have hs : shr (xs.take k) = xs.take k := by
   unfold shr
   rw [List.filter_eq_self]
   intro t ht
   obtain ⟨j,hj,rfl⟩ := List.getElem_of_mem ht
   rw [List.length_take] at hj
   have := h3 j (by omega)
   rw [List.getElem_take]; simpa using this
  refine ⟨h1,by rw [getB _ _ h1]; exact h2,?_⟩
  rw [take_succB xs k h1]
  unfold shr at hs ⊢
  rw [List.filter_append,hs,filter1_f (by rw [getB _ _ h1,h2]; rfl),List.append_nil]
 ·omega
theorem uqIx_bd (xs:List Tg):-1 ≤ uqIx xs ∧ uqIx xs < xs.length:=by
 unfold uqIx
 split
 ·rename_i k hk
  obtain ⟨h1,_⟩ := List.findIdx?_eq_some_iff_getElem.1 hk
  omega
 ·omega
theorem shr_hit {xs:List Tg}{j:Nat}(hj:j < xs.length) (h:xs[j]!.uq = false):shr (xs.take (j + 1)) = shr (xs.take j) ++ [xs[j]!]:=by
 rw [take_succB xs j hj]; unfold shr
 rw [List.filter_append,filter1_t (by rw [h]; rfl)]
theorem shr_skip {xs:List Tg}{j:Nat}(hj:j < xs.length) (h:xs[j]!.uq = true):shr (xs.take (j + 1)) = shr (xs.take j):=by
 rw [take_succB xs j hj]; unfold shr
 rw [List.filter_append,filter1_f (by rw [h]; rfl),List.append_nil]
theorem set_take {α:Type}[Inhabited α] {L:List α}{i:Nat}{x:α}(h:i < L.length):(L.set i x).take (i + 1) = L.take i ++ [x]:=by
 rw [List.set_eq_take_append_cons_drop,if_pos h]
 have h1 : (L.take i).length = i := by rw [List.length_take]; omega
 rw [List.take_append,h1,show i + 1 - i = 1 by omega,List.take_of_length_le (by omega)]
 rfl
theorem drop_get {α:Type}[Inhabited α] {L M:List α}{j:Nat}(h:L.drop j = M.drop j) (hl:L.length = M.length) (hj:j < M.length):L[j]! = M[j]!:=by
 rw [getB _ _ (by omega),getB _ _ hj]
 rw [List.drop_eq_getElem_cons (by omega : j < L.length),List.drop_eq_getElem_cons hj] at h
 exact (List.cons.inj h).1
theorem drop_drop1 {α:Type}{L M:List α}{j:Nat}(h:L.drop j = M.drop j):L.drop (j + 1) = M.drop (j + 1):=by
 rw [← List.drop_drop,h,List.drop_drop]
theorem rx_delT {xs:List Tg}{m:Nat}{x0 x1:Operand}{i0:Nat}(ha0:ev (lk tsl) x0 = some (.own i0 0 m 2)) (ha1:ev (lk tsl) x1 = some (.v (.func (.func 275) #[] #[]))) (hH0:lkH hsl i0 = some (flat cTg xs)) (hmc:MC Tryz.prog 274 [.own 0 0 m 2,.v (.func (.func 275) #[] #[])] [(0,some (flat cTg xs))] 1 (fun _:Unit => True) (fun _ => .own 0 0 (shr xs).length 2) (fun _ => [(0,some (flat cTg (shr xs)))])) (hM:Nat.ble (nidl + 0) big = true) (hN:Nat.blt d N = true){md':Md}[hmd:MdA md (rOs [x0,x1] ++ [.inr i0]) (List.map Sum.inr (List.map Prod.fst ([(i0,some (flat cTg (shr xs)))]:List (Nat × Option (List AV)))) ++ [.inl d]) md'] (kk:RW Tryz.prog N all Q md' rest ⟨(d,.own i0 0 (shr xs).length 2) :: tsl,wrH hsl [(i0,some (flat cTg (shr xs)))],nidl + 0,z0⟩):RW Tryz.prog N all Q md (⟨some d,.call ⟨.value (.func 274),#[x0,x1],tys⟩,ty,pos,af,none⟩ :: rest) ⟨tsl,hsl,nidl,z0⟩:=by
 exact rx_mcallA (l := [x0,x1]) [i0] 1 [(i0,some (flat cTg (shr xs)))] hmc (avs := [.own i0 0 m 2,.v (.func (.func 275) #[] #[])]) (by simp only [evL,ha0,ha1]) rfl hM hN (md' := md') (hmd := hmd) kk
theorem delT_c (xs:List Tg) (m:Nat) (hm:m = xs.length) (hl:m ≤ 1048576):MC Tryz.prog 274 [.own 0 0 m 2,.v (.func (.func 275) #[] #[])] [(0,some (flat cTg xs))] 1 (fun _:Unit => True) (fun _ => .own 0 0 (shr xs).length 2) (fun _ => [(0,some (flat cTg (shr xs)))]):=by
 subst hm
 have hix := idxT2_c xs hl
 have hbd := uqIx_bd xs
 by_cases hn : uqIx xs = -1
 ·rw [hn] at hix
  have hs := uqIx_none hn
  refine mc_start Tryz.func274 Tryz.ntmps274 ?_
  repeat' (first|(apply id_rw;(apply rx_lendE (k := 272);(case ha => rfl);(case hl => (repeat' (first|exact lendL_nil|apply lendL_cons|exact lendV_v|exact lendV_own rfl inferInstance)));(case h => exact hix);(case hfr|hN => rfl);(case hmd => infer_instance)))|refine stpb ?_|fail)
  all_goals (
   (refine rq_ret rfl ?_; refine mc_ret () trivial ?_ ⟨sE ?_,trivial⟩)
   ·rw [hs]; rfl
   ·rw [hs])
 ·obtain ⟨i0, hi0⟩ := Int.eq_ofNat_of_zero_le (show 0 ≤ uqIx xs by omega)
  obtain ⟨g1,g2,g3⟩ := uqIx_some hi0
  rw [hi0] at hix
  refine mc_start Tryz.func274 Tryz.ntmps274 ?_
  repeat' (first|(apply id_rw;(apply rx_lendE (k := 272);(case ha => rfl);(case hl => (repeat' (first|exact lendL_nil|apply lendL_cons|exact lendV_v|exact lendV_own rfl inferInstance)));(case h => exact hix);(case hfr|hN => rfl);(case hmd => infer_instance)))|refine stpb ?_|fail)
  all_goals (try (exfalso;omega))
  refine aw_loopA (σ := List Tg × Nat × Nat) [0,1] [] (fun s => [(5,iv (s.2.1 : Int)),(6,iv (s.2.2 : Int))]) (fun s => [(0,some (flat cTg s.1))]) (fun s => s.1.length = xs.length ∧ s.1.take s.2.1 = shr (xs.take s.2.2) ∧ s.1.drop s.2.2 = xs.drop s.2.2 ∧ s.2.1 < s.2.2 ∧ s.2.2 ≤ xs.length) (fun s => xs.length - s.2.2) (xs,i0,i0 + 1) ⟨rfl,g3.symm,rfl,by dsimp only;omega,by dsimp only;omega⟩ ?_
  rintro ⟨L,i,j⟩ ⟨hL,ht,hd,hij,hj⟩
  dsimp only at hL ht hd hij hj ⊢
  by_cases hjn : j < xs.length
  ·have hcl := touch2_c L[j]!
   have hg := drop_get hd hL hjn
   repeat' (first|(apply id_rw;first|(apply rx_store;rfl;rfl;rfl;rfl;rfl;(case hl => (first|(rw [flat_length]; simp only [lns] <;> omega)|(simp;done)));(exact st_tg (by (first|assumption|omega))))|(apply rx_callC;rfl;rfl;infer_instance;rfl;(apply hcl);(rfl);rfl))|refine stpb ?_|(refine stp2 ?_ ?_ <;> intro hc hq <;> try (exfalso;omega))|fail)
   ·have hu : L[j]!.uq = false := by assumption
    (refine ex3 (_,i + 1,j + 1) (Le.renA []) ?_ ?_)
    ·refine ⟨by dsimp only; rw [List.length_set]; exact hL, ?_, ?_, by dsimp only; omega, by dsimp only; omega⟩
     ·dsimp only
      rw [set_take (by omega),ht,shr_hit hjn (by rw [← hg]; exact hu),hg]
     ·dsimp only
      rw [List.drop_set_of_lt (by omega)]
      exact drop_drop1 hd
    ·dsimp only;omega
   ·have hu : L[j]!.uq = true := by assumption
    (refine ex3 (L,i,j + 1) (Le.renA []) ?_ ?_)
    ·refine ⟨hL, ?_, drop_drop1 hd, by dsimp only; omega, by dsimp only; omega⟩
     dsimp only
     rw [ht,shr_skip hjn (by rw [← hg]; exact hu)]
    ·dsimp only;omega
  ·have hfl : (flat cTg L).length = L.length * 2 := flat_length cTg L
   repeat' (first|(apply id_rw;first|(apply rx_slice (d := 38) (l := i) (h := xs.length);rfl;rfl;exact bnd_to rfl (by omega);rfl;exact if_pos (by omega);rfl)|(apply rx_slice (d := 41) (l := 0) (h := i);rfl;rfl;rfl;exact bnd_to rfl (by omega);exact if_pos (by omega);rfl)|(apply rx_clear;rfl;rfl;omega;rfl;(rw [hfl]; omega);rfl))|refine stpb ?_|(refine stp2 ?_ ?_ <;> intro hc hq <;> try (exfalso;omega))|fail)
   refine rq_le (Le.cut (i := 0) (i * 2) rfl) ?_
   have hje : j = xs.length := by omega
   have hLt : L.take i = shr xs := by rw [ht,hje,List.take_length]
   have hil : (shr xs).length = i := by rw [← hLt,List.length_take]; omega
   (refine rq_ret rfl ?_; refine mc_ret () trivial ?_ ⟨sE ?_,trivial⟩)
   ·show AV.own 0 (0 + 0 * 2) (i - 0) 2 = _
    rw [hil]; rfl
   ·rw [take_spl (by omega),flat_take cTg (e := 2),hLt]
theorem rx_ownC {m:List Cl}{x0:Operand}(ha0:ev (lk tsl) x0 = some (sl cCl m)) (hmc:MC Tryz.prog 214 [sl cCl m] [] 0 (fun _:Unit => True) (fun _ => .own 1 0 m.length 4) (fun _ => [(1,some (flat cCl m))])) (hM:Nat.ble (nidl + 2) big = true) (hN:Nat.blt d N = true){md':Md}[hmd:MdA md (rOs [x0] ++ []) (List.map Sum.inr (List.map Prod.fst ([((nidl + 1),some (flat cCl m))]:List (Nat × Option (List AV)))) ++ [.inl d]) md'] (kk:RW Tryz.prog N all Q md' rest ⟨(d,.own (nidl + 1) 0 m.length 4) :: tsl,wrH hsl [((nidl + 1),some (flat cCl m))],nidl + 2,z0⟩):RW Tryz.prog N all Q md (⟨some d,.call ⟨.value (.func 214),#[x0],tys⟩,ty,pos,af,none⟩ :: rest) ⟨tsl,hsl,nidl,z0⟩:=by
 exact rx_mcallA (l := [x0]) [] 2 [((nidl + 1),some (flat cCl m))] hmc (avs := [sl cCl m]) (by simp only [evL,ha0]) rfl hM hN (md' := md') (hmd := hmd) kk
theorem rx_ownO {m:List Cl}{j:Nat}{x0:Operand}(ha0:ev (lk tsl) x0 = some (sl cCl m)) (hmc:MC Tryz.prog 214 [sl cCl m] [] 0 (fun _:Unit => True) (fun _ => .own 1 0 m.length 4) (fun _ => [(1,some (flat cCo (opn m j (.own 2 0 m[j]!.stk.length 2)))),(2,some (flat cTg m[j]!.stk))])) (hM:Nat.ble (nidl + 3) big = true) (hN:Nat.blt d N = true){md':Md}[hmd:MdA md (rOs [x0] ++ []) (List.map Sum.inr (List.map Prod.fst ([((nidl + 1),some (flat cCo (opn m j (.own (nidl + 2) 0 m[j]!.stk.length 2)))),((nidl + 2),some (flat cTg m[j]!.stk))]:List (Nat × Option (List AV)))) ++ [.inl d]) md'] (kk:RW Tryz.prog N all Q md' rest ⟨(d,.own (nidl + 1) 0 m.length 4) :: tsl,wrH hsl [((nidl + 1),some (flat cCo (opn m j (.own (nidl + 2) 0 m[j]!.stk.length 2)))),((nidl + 2),some (flat cTg m[j]!.stk))],nidl + 3,z0⟩):RW Tryz.prog N all Q md (⟨some d,.call ⟨.value (.func 214),#[x0],tys⟩,ty,pos,af,none⟩ :: rest) ⟨tsl,hsl,nidl,z0⟩:=by
 exact rx_mcallA (l := [x0]) [] 3 [((nidl + 1),some (flat cCo (opn m j (.own (nidl + 2) 0 m[j]!.stk.length 2)))),((nidl + 2),some (flat cTg m[j]!.stk))] hmc (avs := [sl cCl m]) (by simp only [evL,ha0]) rfl hM hN (md' := md') (hmd := hmd) kk
theorem set_self {α:Type}[Inhabited α] (l:List α) (k:Nat):l.set k l[k]! = l:=by
 rcases Nat.lt_or_ge k l.length with h|h
 ·rw [getB _ _ h]; simp
 ·exact List.set_eq_of_length_le h
theorem st_clS0 {m:List Cl}{i:Nat}(hi:i < m.length):spl (flat cCl m) (0 + i * 4 + 3) [sl cTg m[i]!.stk] = flat cCl m:=by
 have h := st_clS (xs := m) (k := i) (s := m[i]!.stk) hi
 rw [show m.set i { m[i]! with stk := m[i]!.stk } = m from set_self m i] at h
 exact h
theorem opn_ne {m:List Cl}{i j:Nat}{X:AV}(hi:i < m.length) (h:i ≠ j):(opn m j X)[i]! = toCo m[i]!:=by
 unfold opn
 rw [getB _ _ (by rw [List.length_set,List.length_map]; exact hi),List.getElem_set_ne (fun e => h e.symm),List.getElem_map,getB _ _ hi]
theorem st_opnK {m:List Cl}{i j:Nat}{X:AV}(h:i < m.length ∧ i ≠ j):spl (flat cCo (opn m j X)) (0 + i * 4 + 3) [sl cTg m[i]!.stk] = flat cCo (opn m j X):=by
 have hl := opn_len (m := m) (j := j) (X := X)
 have e : (opn m j X).set i { (opn m j X)[i]! with av := sl cTg m[i]!.stk } = opn m j X := by
  rw [opn_ne h.1 h.2]
  have : ({ toCo m[i]! with av := sl cTg m[i]!.stk } : Co) = (opn m j X)[i]! := by rw [opn_ne h.1 h.2]; rfl
  rw [this]; exact set_self _ _
 rw [← e]
 have := st_flat (f := cCo) (xs := opn m j X) (k := i) (j := 3) (new := [sl cTg m[i]!.stk]) (y := { (opn m j X)[i]! with av := sl cTg m[i]!.stk }) (by rw [hl]; exact h.1) (by simp) rfl
 rw [e] at this ⊢
 exact this
theorem all2_pur {mp:List (Nat × Nat)}{lo:Lo}:∀ {cs:List AV},pursB cs = true → All2 (RenV mp lo) cs cs
 | [],_ => .nil
 | c :: cs, h => by
  simp only [pursB,Bool.and_eq_true] at h
  exact .cons (.inl ⟨rfl,h.1⟩) (all2_pur h.2)
theorem all2_app {α β:Type}{R:α → β → Prop}:∀ {a:List α}{b:List β}{c:List α}{d:List β},All2 R a b → All2 R c d → All2 R (a ++ c) (b ++ d)
 | _,_,_,_,.nil,h => h
 | _,_,_,_,.cons h1 h2,h => .cons h1 (all2_app h2 h)
theorem ren_opn {mp:List (Nat × Nat)}{lo:Lo}{m:List Cl}{j k i i':Nat}(h:j < m.length) (hr:ren1 mp lo (.own i 0 k 2) = some (.own i' 0 k 2)):All2 (RenV mp lo) (flat cCo (opn m j (.own i 0 k 2))) (flat cCo (opn m j (.own i' 0 k 2))):=by
 rw [opn_flat h,opn_flat h]
 exact all2_app (all2_pur (inferInstance : Pur (flat cCl _)).pf) (all2_app (all2_pur (inferInstance : Pur [iv _,bv _,iv _]).pf) (.cons (.inr hr) (all2_pur (inferInstance : Pur (flat cCl _)).pf)))
theorem ownC_c (m:List Cl) (hm:OkM m):MC Tryz.prog 214 [sl cCl m] [] 0 (fun _:Unit => True) (fun _ => .own 1 0 m.length 4) (fun _ => [(1,some (flat cCl m))]):=by
 have hml := hm.l
 have hcc := cloneC_c m (by omega)
 refine mc_start Tryz.func214 Tryz.ntmps214 ?_
 repeat' (first|(apply id_rw;(apply rx_cloneC;rfl;exact hcc;rfl;rfl))|refine stpb ?_|fail)
 refine aw_loopA (σ := Nat) [3,8,9] [] (fun k => [(10,iv (k : Int))]) (fun k => [(1,some (flat cCl m))]) (fun k => k ≤ m.length) (fun k => m.length - k) (0) (Nat.zero_le _) ?_
 rintro i hi
 by_cases hin : i < m.length
 ·have hst : m[i]!.stk.length ≤ 200 := (((OkM_iff m).1 hm).2 i hin).l.2
  have hct := cloneT_c m[i]!.stk (by omega)
  repeat' (first|(apply id_rw;first|(apply rx_cloneT;rfl;exact hct;rfl;rfl)|(with_reducible apply rw_stop (d := 20)))|refine stpb ?_|(refine stp2 ?_ ?_ <;> intro hc hq <;> try (exfalso;omega))|fail)
  refine rw_go (rw_le ?_ (Le.frzD (d := 19) (i := 4) rfl rfl))
  repeat' (first|(apply id_rw;(apply rx_store;rfl;rfl;rfl;rfl;rfl;(rw [flat_length]; simp only [lns] <;> omega);(exact st_clS0 (by (assumption)))))|refine stpb ?_|fail)
  (apply ex3 (i + 1);focus (refine Le.ren [(1,1)] rfl (by decide) ?_ ?_ <;> repeat' (first|exact trivial|refine And.intro ⟨_,rfl,?_⟩ ?_|refine And.intro ⟨_,_,rfl,rfl,?_⟩ ?_|exact Or.inr rfl|refine Or.inl ⟨?_,(by first|rfl|exact pur_sl _ _)⟩|rfl)))
  ·omega
  ·omega
 ·repeat' (first | refine stpb ?_ | (refine stp2 ?_ ?_ <;> intro hc hq <;> try (exfalso; omega))|fail)
  (refine rq_ret rfl ?_; refine mc_ret () trivial ?_ ⟨sE ?_,trivial⟩)
  ·rfl
  ·rfl
theorem ownO_c (m:List Cl) (j:Nat) (hm:OkM m) (hj:j < m.length):MC Tryz.prog 214 [sl cCl m] [] 0 (fun _:Unit => True) (fun _ => .own 1 0 m.length 4) (fun _ => [(1,some (flat cCo (opn m j (.own 2 0 m[j]!.stk.length 2)))),(2,some (flat cTg m[j]!.stk))]):=by
 have hml := hm.l
 have hcc := cloneC_c m (by omega)
 refine mc_start Tryz.func214 Tryz.ntmps214 ?_
 repeat' (first|(apply id_rw;(apply rx_cloneC;rfl;exact hcc;rfl;rfl))|refine stpb ?_|fail)
 refine AW.le ?_ (Le.bump 1)
 refine aw_loopA (σ := Nat × Bool) [3,8,9] [] (fun k => [(10,iv (k.1 : Int))]) (fun k => [(1,some (cond k.2 (flat cCo (opn m j (.own 2 0 m[j]!.stk.length 2))) (flat cCl m))),(2,cond k.2 (some (flat cTg m[j]!.stk)) none)]) (fun k => k.1 ≤ m.length ∧ k.2 = decide (j < k.1)) (fun k => m.length - k.1) (0,false) ⟨Nat.zero_le _,by simp⟩ ?_
 rintro ⟨i,b⟩ ⟨hi,hb⟩
 dsimp only at hi hb ⊢
 by_cases hin : i < m.length
 ·have hst : m[i]!.stk.length ≤ 200 := (((OkM_iff m).1 hm).2 i hin).l.2
  have hct := cloneT_c m[i]!.stk (by omega)
  by_cases hij : j < i
  ·rw [decide_eq_true hij] at hb; subst hb
   simp only [cond_true]
   have hol := opn_len (m := m) (j := j) (X := .own 2 0 m[j]!.stk.length 2)
   have hon := opn_ne (m := m) (i := i) (j := j) (X := .own 2 0 m[j]!.stk.length 2) hin (by omega)
   repeat' (first|(apply id_rw;(with_reducible apply rw_stop (d := 5)))|refine stpb ?_|(refine stp2 ?_ ?_ <;> intro hc hq <;> try (exfalso;omega))|fail)
   refine rw_go ?_
   rw [hon]
   dsimp only [toCo]
   repeat' (first|(apply id_rw;first|(apply rx_cloneT;rfl;exact hct;rfl;rfl)|(with_reducible apply rw_stop (d := 20)))|refine stpb ?_|fail)
   refine rw_go (rw_le ?_ (Le.frzD (d := 19) (i := 5) rfl rfl))
   repeat' (first|(apply id_rw;(apply rx_store;rfl;rfl;rfl;rfl;rfl;(rw [flat_length]; simp only [lns] <;> omega);(exact st_opnK (by (omega)))))|refine stpb ?_|fail)
   (apply ex3 (i + 1,true);focus (refine Le.ren [(1,1),(2,2)] rfl (by decide) ?_ ?_ <;> repeat' (first|exact trivial|refine And.intro ⟨_,rfl,?_⟩ ?_|refine And.intro ⟨_,_,rfl,rfl,?_⟩ ?_|exact Or.inr rfl|refine Or.inl ⟨?_,(by first|rfl|exact pur_sl _ _)⟩|rfl)))
   ·exact Or.inr (ren_opn hj rfl)
   ·exact ⟨by dsimp only;omega,by dsimp only;rw [decide_eq_true (by omega)]⟩
   ·dsimp only;omega
  ·rw [decide_eq_false hij] at hb; subst hb
   simp only [cond_false]
   repeat' (first|(apply id_rw;first|(apply rx_cloneT;rfl;exact hct;rfl;rfl)|(with_reducible apply rw_stop (d := 20)))|refine stpb ?_|(refine stp2 ?_ ?_ <;> intro hc hq <;> try (exfalso;omega))|fail)
   by_cases hie : i = j
   ·subst hie
    refine rw_go ?_
    repeat' (first|(apply id_rw;(apply rx_store;rfl;rfl;rfl;rfl;rfl;(rw [flat_length]; simp only [lns] <;> omega);(exact spl_opn (by (assumption)))))|refine stpb ?_|fail)
    (apply ex3 (i + 1,true);focus (refine Le.ren [(1,1),(2,5)] rfl (by decide) ?_ ?_ <;> repeat' (first|exact trivial|refine And.intro ⟨_,rfl,?_⟩ ?_|refine And.intro ⟨_,_,rfl,rfl,?_⟩ ?_|exact Or.inr rfl|refine Or.inl ⟨?_,(by first|rfl|exact pur_sl _ _)⟩|rfl)))
    ·exact Or.inr (ren_opn hin rfl)
    ·exact ⟨by dsimp only;omega,by dsimp only;rw [decide_eq_true (by omega)]⟩
    ·dsimp only;omega
   ·refine rw_go (rw_le ?_ (Le.frzD (d := 19) (i := 5) rfl rfl))
    repeat' (first|(apply id_rw;(apply rx_store;rfl;rfl;rfl;rfl;rfl;(rw [flat_length]; simp only [lns] <;> omega);(exact st_clS0 (by (assumption)))))|refine stpb ?_|fail)
    (apply ex3 (i + 1,false);focus (refine Le.ren [(1,1)] rfl (by decide) ?_ ?_ <;> repeat' (first|exact trivial|refine And.intro ⟨_,rfl,?_⟩ ?_|refine And.intro ⟨_,_,rfl,rfl,?_⟩ ?_|exact Or.inr rfl|refine Or.inl ⟨?_,(by first|rfl|exact pur_sl _ _)⟩|rfl)))
    ·exact ⟨by dsimp only;omega,by dsimp only;rw [decide_eq_false (by omega)]⟩
    ·dsimp only;omega
 ·rw [decide_eq_true (by omega)] at hb; subst hb
  simp only [cond_true]
  repeat' (first|refine stpb ?_|(refine stp2 ?_ ?_ <;> intro hc hq <;> try (exfalso;omega))|fail)
  (refine rq_ret rfl ?_; refine mc_ret () trivial ?_ ⟨sE ?_,⟨sE ?_,trivial⟩⟩)
  ·rfl
  ·rfl
  ·rfl
theorem rx_touchN {m:List Cl}{x:Pt}{wr:Bool}{n:Nat}{x0 x1 x2:Operand}{i0:Nat}(ha0:ev (lk tsl) x0 = some (.own i0 0 n 4)) (ha1:ev (lk tsl) x1 = some (aPt x)) (ha2:ev (lk tsl) x2 = some (bv wr)) (hH0:lkH hsl i0 = some (flat cCl m)) (hmc:MC Tryz.prog 215 [.own 0 0 n 4,aPt x,bv wr] [(0,some (flat cCl m))] 1 (fun _:Unit => True) (fun _ => iv (tchK m x wr)) (fun _ => [(0,some (flat cCl m))])) (hM:Nat.ble (nidl + 0) big = true) (hN:Nat.blt d N = true){md':Md}[hmd:MdA md (rOs [x0,x1,x2] ++ [.inr i0]) (List.map Sum.inr (List.map Prod.fst ([(i0,some (flat cCl m))]:List (Nat × Option (List AV)))) ++ [.inl d]) md'] (kk:RW Tryz.prog N all Q md' rest ⟨(d,iv (tchK m x wr)) :: tsl,wrH hsl [(i0,some (flat cCl m))],nidl + 0,z0⟩):RW Tryz.prog N all Q md (⟨some d,.call ⟨.value (.func 215),#[x0,x1,x2],tys⟩,ty,pos,af,none⟩ :: rest) ⟨tsl,hsl,nidl,z0⟩:=by
 exact rx_mcallA (l := [x0,x1,x2]) [i0] 1 [(i0,some (flat cCl m))] hmc (avs := [.own i0 0 n 4,aPt x,bv wr]) (by simp only [evL,ha0,ha1,ha2]) rfl hM hN (md' := md') (hmd := hmd) kk
theorem rx_touchW {m:List Cl}{j:Nat}{t:Int}{k n:Nat}{x0 x1 x2:Operand}{i0 i1:Nat}(ha0:ev (lk tsl) x0 = some (.own i0 0 n 4)) (ha1:ev (lk tsl) x1 = some (.agg [iv (j:Int),iv t])) (ha2:ev (lk tsl) x2 = some (bv true)) (hH0:lkH hsl i0 = some (flat cCo (opn m j (.own i1 0 m[j]!.stk.length 2)))) (hH1:lkH hsl i1 = some (flat cTg m[j]!.stk)) (hdd:Go.AL.distinct [i0,i1] = true) (hmc:MC Tryz.prog 215 [.own 0 0 n 4,.agg [iv (j:Int),iv t],bv true] [(0,some (flat cCo (opn m j (.own 1 0 m[j]!.stk.length 2)))),(1,some (flat cTg m[j]!.stk))] 2 (fun _:Unit => True) (fun _ => iv 0) (fun _ => [(0,some (flat cCo (opn m j (.own 1 0 (k + 1) 2)))),(1,some (flat cTg (m[j]!.stk.take (k + 1))))])) (hM:Nat.ble (nidl + 0) big = true) (hN:Nat.blt d N = true){md':Md}[hmd:MdA md (rOs [x0,x1,x2] ++ [.inr i0,.inr i1]) (List.map Sum.inr (List.map Prod.fst ([(i0,some (flat cCo (opn m j (.own i1 0 (k + 1) 2)))),(i1,some (flat cTg (m[j]!.stk.take (k + 1))))]:List (Nat × Option (List AV)))) ++ [.inl d]) md'] (kk:RW Tryz.prog N all Q md' rest ⟨(d,iv 0) :: tsl,wrH hsl [(i0,some (flat cCo (opn m j (.own i1 0 (k + 1) 2)))),(i1,some (flat cTg (m[j]!.stk.take (k + 1))))],nidl + 0,z0⟩):RW Tryz.prog N all Q md (⟨some d,.call ⟨.value (.func 215),#[x0,x1,x2],tys⟩,ty,pos,af,none⟩ :: rest) ⟨tsl,hsl,nidl,z0⟩:=by
 exact rx_mcallA (l := [x0,x1,x2]) [i0,i1] 2 [(i0,some (flat cCo (opn m j (.own i1 0 (k + 1) 2)))),(i1,some (flat cTg (m[j]!.stk.take (k + 1))))] hmc (avs := [.own i0 0 n 4,.agg [iv (j : Int),iv t],bv true]) (by simp only [evL,ha0,ha1,ha2]) hdd hM hN (md' := md') (hmd := hmd) kk
theorem LdL.app {D:List Nat}{H:Nat → Option (List AV)}:∀ {a b c d:List AV},LdL D H a b → LdL D H c d → pursB a = true → LdL D H (a ++ c) (a ++ d)
 | [],_,_,_,_,h,_ => h
 | x :: a, b, c, d, h1, h, hp => by
  simp only [pursB,Bool.and_eq_true] at hp
  exact .cons (.pur hp.1) (LdL.app (a := a) (b := a) (.pur hp.2) h hp.2)
theorem ld_opn {D:List Nat}{H:Nat → Option (List AV)}{m:List Cl}{j i k:Nat}{r:List Tg}(hi:i ∈ D) (hH:H i = some (flat cTg r)) (hk:k = r.length) (hj:j < m.length):LdL D H (flat cCo (opn m j (.own i 0 k 2))) (flat cCl (m.set j { m[j]! with stk := r })):=by
 subst hk
 rw [← opn_self,opn_flat hj,opn_flat hj]
 have p1 : pursB (flat cCl (m.take j)) = true := (inferInstance : Pur (flat cCl _)).pf
 have p2 : pursB [iv m[j]!.val,bv m[j]!.alive,iv m[j]!.next] = true := rfl
 exact LdL.app (.pur p1) (LdL.app (.pur p2) (.cons (.own hi hH (.pur (inferInstance : Pur (flat cTg r)).pf)) (.pur (inferInstance : Pur (flat cCl _)).pf)) p2) p1
theorem ld_opn0 {D:List Nat}{H:Nat → Option (List AV)}{m:List Cl}{j i:Nat}(hi:i ∈ D) (hH:H i = some (flat cTg m[j]!.stk)) (hj:j < m.length):LdL D H (flat cCo (opn m j (.own i 0 m[j]!.stk.length 2))) (flat cCl m):=by
 have h := ld_opn (m := m) (r := m[j]!.stk) hi hH rfl hj
 rwa [show m.set j { m[j]! with stk := m[j]!.stk } = m from set_self m j] at h
theorem tchK_3 {m:List Cl}{x:Pt}{wr:Bool}(h:0 ≤ x.cell) (h2:x.cell < m.length) (h3:m[x.cell.toNat]!.alive = true) (h4:0 ≤ tgIx m[x.cell.toNat]!.stk x.tag) (hw:wr = true) (h5:m[x.cell.toNat]!.stk[(tgIx m[x.cell.toNat]!.stk x.tag).toNat]!.uq = false):tchK m x wr = 3:=by
 unfold tchK;rw [if_neg (by omega),if_neg (by rw [h3]; decide),if_neg (by omega),if_pos ⟨hw,h5⟩]
theorem touchN_c (m:List Cl) (x:Pt) (wr:Bool) (n:Nat) (hm:OkM m) (hn:n = m.length) (hk:tchK m x wr ≠ 0):MC Tryz.prog 215 [.own 0 0 n 4,aPt x,bv wr] [(0,some (flat cCl m))] 1 (fun _:Unit => True) (fun _ => iv (tchK m x wr)) (fun _ => [(0,some (flat cCl m))]):=by
 subst hn
 have hml := hm.l
 have hcv := CellsValidI_c m hm
 have hst : 0 ≤ x.cell → x.cell < m.length → m[x.cell.toNat]!.stk.length ≤ 200 := fun h1 h2 => (((OkM_iff m).1 hm).2 x.cell.toNat (by omega)).l.2
 have hbd := tgIx_bd m[x.cell.toNat]!.stk x.tag
 have hidx := fun h => idxT1_c m[x.cell.toNat]!.stk x.cell x.tag h
 refine mc_start Tryz.func215 Tryz.ntmps215 ?_
 repeat' (first|(apply id_rw;first|(apply rx_lendE (k := 195);(case ha => rfl);(case hl => (repeat' (first|exact lendL_nil|apply lendL_cons|exact lendV_own rfl inferInstance)));(case h => exact hcv);(case hfr|hN => rfl);(case hmd => infer_instance))|((apply rx_makeFuncFrzN 4);(case hx|hH|hc|hN => rfl))|(apply rx_callE (k := 272);rfl;(exact (hidx (by have := hst (by omega) (by omega);omega)));exact Pur.pf;rfl)|(with_reducible apply rw_stop (d := 75))|(apply rx_callE (k := 35);rfl;(apply within_c);(rfl);rfl))|refine stpb ?_|(refine stp2 ?_ ?_ <;> intro hc hq <;> try (exfalso;omega))|(refine stp3 ?_ ?_ <;> intro hg hq <;> try (exfalso;omega))|fail)
 ·(refine rq_ret rfl ?_; refine mc_ret () trivial ?_ ⟨sE ?_, trivial⟩)
  ·rw [tchK_4 (by omega)]; rfl
  ·rfl
 ·(refine rq_ret rfl ?_; refine mc_ret () trivial ?_ ⟨sE ?_, trivial⟩)
  ·rw [tchK_1 (by omega) (by omega) (by assumption)]; rfl
  ·rfl
 ·(refine rq_ret rfl ?_; refine mc_ret () trivial ?_ ⟨sE ?_, trivial⟩)
  ·rw [tchK_2 (by omega) (by omega) (by assumption) (by assumption)]; rfl
  ·rfl
 ·(refine rq_ret rfl ?_; refine mc_ret () trivial ?_ ⟨sE ?_, trivial⟩)
  ·rw [tchK_3 (by omega) (by omega) (by assumption) (by assumption) (by assumption) (by assumption)]; rfl
  ·rfl
 ·exfalso
  have hw : wr = true := by assumption
  have hu : m[x.cell.toNat]!.stk[(tgIx m[x.cell.toNat]!.stk x.tag).toNat]!.uq = true := by assumption
  subst hw
  refine hk ?_
  rw [tchK_wr,if_pos (tchK_0f (by omega) (by omega) (by assumption) (by assumption)),if_neg (by rw [hu]; decide)]
 ·exfalso
  have hw : wr = false := by assumption
  subst hw
  exact hk (tchK_0f (by omega) (by omega) (by assumption) (by assumption))
theorem touchW_c (m:List Cl) (j:Nat) (t:Int) (k n:Nat) (hm:OkM m) (hn:n = m.length) (hj:j < m.length) (hk:tgIx m[j]!.stk t = (k:Int)) (hal:m[j]!.alive = true) (hu:m[j]!.stk[k]!.uq = true):MC Tryz.prog 215 [.own 0 0 n 4,.agg [iv (j:Int),iv t],bv true] [(0,some (flat cCo (opn m j (.own 1 0 m[j]!.stk.length 2)))),(1,some (flat cTg m[j]!.stk))] 2 (fun _:Unit => True) (fun _ => iv 0) (fun _ => [(0,some (flat cCo (opn m j (.own 1 0 (k + 1) 2)))),(1,some (flat cTg (m[j]!.stk.take (k + 1))))]):=by
 subst hn
 have hml := hm.l
 have hcv := CellsValidI_c m hm
 have hst : m[j]!.stk.length ≤ 200 := (((OkM_iff m).1 hm).2 j hj).l.2
 have hbd := tgIx_bd m[j]!.stk t
 rw [hk] at hbd
 have hidx := idxT1_c m[j]!.stk (j : Int) t (by omega)
 rw [hk] at hidx
 have hog := opn_get (m := m) (j := j) (X := .own 1 0 m[j]!.stk.length 2) hj
 have hol := opn_len (m := m) (j := j) (X := .own 1 0 m[j]!.stk.length 2)
 refine mc_start Tryz.func215 Tryz.ntmps215 ?_
 repeat' (first|(apply id_rw;first|(apply rx_lendG (k := 195) (D := [0,1]) (h := hcv);rfl;exact .cons (.own (by simp) rfl (ld_opn0 (by simp) rfl hj)) .nil;rfl;rfl)|(with_reducible apply rw_stop (d := 35))|(apply rx_callE (k := 35);rfl;(apply within_c);(rfl);rfl))|refine stpb ?_|(refine stp2 ?_ ?_ <;> intro hc hq <;> try (exfalso;omega))|fail)
 all_goals (try (exfalso;omega))
 ·exfalso
  have h : (opn m j (.own 1 0 m[j]!.stk.length 2))[j]!.alive = false := by assumption
  rw [hog] at h;simp only [hal] at h;cases h
 refine rw_go ?_
 rw [hog]
 dsimp only
 repeat' (first|(apply id_rw;first|((apply rx_makeFuncFrzN 4);(case hx|hH|hc|hN => rfl))|(apply rx_lendG (k := 272) (D := [1]) (h := hidx);rfl;exact .cons (.own (by simp) rfl (.pur (inferInstance : Pur (flat cTg _)).pf)) (.cons (.pur rfl) .nil);rfl;rfl)|(with_reducible apply rw_stop (d := 68)))|refine stpb ?_|fail)
 refine rw_go ?_
 rw [hog]
 dsimp only
 repeat' (first|(apply id_rw;(with_reducible apply rw_stop (d := 81)))|refine stpb ?_|(refine stp2 ?_ ?_ <;> intro hc hq <;> try (exfalso;omega))|fail)
 ·exfalso
  have h : m[j]!.stk[k]!.uq = false := by assumption
  rw [hu] at h;cases h
 refine rw_go ?_
 rw [hog]
 dsimp only
 repeat' (first|(apply id_rw;first|(apply rx_slice (d := 83) (l := 0) (h := k + 1);rfl;rfl;rfl;exact bnd_to rfl (by omega);exact if_pos (by omega);rfl)|(apply rx_store;rfl;rfl;rfl;rfl;rfl;(rw [flat_length]; simp only [lns] <;> omega);(exact st_opn (by (assumption)))))|refine stpb ?_|fail)
 refine rq_le (Le.cut (i := 1) ((k + 1) * 2) rfl) ?_
 (refine rq_ret rfl ?_; refine mc_ret () trivial ?_ ⟨sE ?_,⟨sE ?_,trivial⟩⟩)
 ·rfl
 ·rfl
 ·rw [flat_take cTg (e := 2)]
theorem rx_cloneO {xs:List Tg}{k n:Nat}{x0:Operand}{i0:Nat}(ha0:ev (lk tsl) x0 = some (.own i0 (0 + k * 2) n 2)) (hH0:lkH hsl i0 = some (flat cTg xs)) (hmc:MC Tryz.prog 271 [.own 0 (0 + k * 2) n 2] [(0,some (flat cTg xs))] 1 (fun _:Unit => True) (fun _ => .own 2 0 n 2) (fun _ => [(0,some (flat cTg xs)),(2,some (flat cTg (xs.drop k)))])) (hM:Nat.ble (nidl + 2) big = true) (hN:Nat.blt d N = true){md':Md}[hmd:MdA md (rOs [x0] ++ [.inr i0]) (List.map Sum.inr (List.map Prod.fst ([(i0,some (flat cTg xs)),((nidl + 1),some (flat cTg (xs.drop k)))]:List (Nat × Option (List AV)))) ++ [.inl d]) md'] (kk:RW Tryz.prog N all Q md' rest ⟨(d,.own (nidl + 1) 0 n 2) :: tsl,wrH hsl [(i0,some (flat cTg xs)),((nidl + 1),some (flat cTg (xs.drop k)))],nidl + 2,z0⟩):RW Tryz.prog N all Q md (⟨some d,.call ⟨.value (.func 271),#[x0],tys⟩,ty,pos,af,none⟩ :: rest) ⟨tsl,hsl,nidl,z0⟩:=by
 exact rx_mcallA (l := [x0]) [i0] 3 [(i0,some (flat cTg xs)),((nidl + 1),some (flat cTg (xs.drop k)))] hmc (avs := [.own i0 (0 + k * 2) n 2]) (by simp only [evL,ha0]) rfl hM hN (md' := md') (hmd := hmd) kk
theorem cloneO_c (xs:List Tg) (k n:Nat) (hn:n = xs.length - k) (hl:xs.length ≤ 1048576):MC Tryz.prog 271 [.own 0 (0 + k * 2) n 2] [(0,some (flat cTg xs))] 1 (fun _:Unit => True) (fun _ => .own 2 0 n 2) (fun _ => [(0,some (flat cTg xs)),(2,some (flat cTg (xs.drop k)))]):=by
 subst hn
 refine mc_start Tryz.func271 Tryz.ntmps271 ?_
 repeat' (first|(apply id_rw;first|(apply rx_eqNilO;rfl;rfl;(intro b hb))|(apply rx_append;rfl;rfl;rfl;rfl;rfl;(decide);exact sC_tail rfl rfl;omega;omega;(exact app_nilF rfl);rfl;rfl))|refine stpb ?_|(refine stp2 ?_ ?_ <;> intro hc hq <;> try (exfalso;omega))|fail)
 ·have h0 : xs.length - k = 0 := hb (by assumption)
  have h1 : xs.drop k = [] := List.drop_eq_nil_of_le (by omega)
  refine rq_le (Le.bump 1) ?_
  refine rq_le (Le.nilOwn (d := 2) 2 rfl (by decide)) ?_
  (refine rq_ret rfl ?_; refine mc_ret () trivial ?_ ⟨sE ?_,⟨sE ?_,trivial⟩⟩)
  ·show AV.own 2 0 0 2 = _; rw [h0]
  ·rfl
  ·rw [h1]; rfl
 ·(refine rq_ret rfl ?_; refine mc_ret () trivial ?_ ⟨sE ?_, ⟨sE ?_, trivial⟩⟩)
  ·show AV.own 2 0 (0 + (xs.length - k)) 2 = _
   rw [Nat.zero_add]
  ·rfl
  ·rfl
theorem rx_touchR {m:List Cl}{j:Nat}{t:Int}{r:List Tg}{n:Nat}{x0 x1 x2:Operand}{i0 i1:Nat}(ha0:ev (lk tsl) x0 = some (.own i0 0 n 4)) (ha1:ev (lk tsl) x1 = some (.agg [iv (j:Int),iv t])) (ha2:ev (lk tsl) x2 = some (bv false)) (hH0:lkH hsl i0 = some (flat cCo (opn m j (.own i1 0 m[j]!.stk.length 2)))) (hH1:lkH hsl i1 = some (flat cTg m[j]!.stk)) (hdd:Go.AL.distinct [i0,i1] = true) (hmc:MC Tryz.prog 215 [.own 0 0 n 4,.agg [iv (j:Int),iv t],bv false] [(0,some (flat cCo (opn m j (.own 1 0 m[j]!.stk.length 2)))),(1,some (flat cTg m[j]!.stk))] 2 (fun _:Unit => True) (fun _ => iv 0) (fun _ => [(0,some (flat cCo (opn m j (.own 5 0 r.length 2)))),(5,some (flat cTg r))])) (hM:Nat.ble (nidl + 4) big = true) (hN:Nat.blt d N = true){md':Md}[hmd:MdA md (rOs [x0,x1,x2] ++ [.inr i0,.inr i1]) (List.map Sum.inr (List.map Prod.fst ([(i0,some (flat cCo (opn m j (.own (nidl + 3) 0 r.length 2)))),((nidl + 3),some (flat cTg r)),(i1,none)]:List (Nat × Option (List AV)))) ++ [.inl d]) md'] (kk:RW Tryz.prog N all Q md' rest ⟨(d,iv 0) :: tsl,wrH hsl [(i0,some (flat cCo (opn m j (.own (nidl + 3) 0 r.length 2)))),((nidl + 3),some (flat cTg r)),(i1,none)],nidl + 4,z0⟩):RW Tryz.prog N all Q md (⟨some d,.call ⟨.value (.func 215),#[x0,x1,x2],tys⟩,ty,pos,af,none⟩ :: rest) ⟨tsl,hsl,nidl,z0⟩:=by
 exact rx_mcallA (l := [x0,x1,x2]) [i0,i1] 6 [(i0,some (flat cCo (opn m j (.own (nidl + 3) 0 r.length 2)))),((nidl + 3),some (flat cTg r)),(i1,none)] hmc (avs := [.own i0 0 n 4,.agg [iv (j : Int),iv t],bv false]) (by simp only [evL,ha0,ha1,ha2]) hdd hM hN (md' := md') (hmd := hmd) kk
theorem touchR_c (m:List Cl) (j:Nat) (t:Int) (r:List Tg) (k n:Nat) (hm:OkM m) (hn:n = m.length) (hj:j < m.length) (hk:tgIx m[j]!.stk t = (k:Int)) (hal:m[j]!.alive = true) (hr:r = tchS m[j]!.stk k false):MC Tryz.prog 215 [.own 0 0 n 4,.agg [iv (j:Int),iv t],bv false] [(0,some (flat cCo (opn m j (.own 1 0 m[j]!.stk.length 2)))),(1,some (flat cTg m[j]!.stk))] 2 (fun _:Unit => True) (fun _ => iv 0) (fun _ => [(0,some (flat cCo (opn m j (.own 5 0 r.length 2)))),(5,some (flat cTg r))]):=by
 subst hn
 have hml := hm.l
 have hcv := CellsValidI_c m hm
 have hst : m[j]!.stk.length ≤ 200 := (((OkM_iff m).1 hm).2 j hj).l.2
 have hbd := tgIx_bd m[j]!.stk t
 rw [hk] at hbd
 have hidx := idxT1_c m[j]!.stk (j : Int) t (by omega)
 rw [hk] at hidx
 have hog := opn_get (m := m) (j := j) (X := .own 1 0 m[j]!.stk.length 2) hj
 have hol := opn_len (m := m) (j := j) (X := .own 1 0 m[j]!.stk.length 2)
 refine mc_start Tryz.func215 Tryz.ntmps215 ?_
 repeat' (first|(apply id_rw;first|(apply rx_lendG (k := 195) (D := [0,1]) (h := hcv);rfl;exact .cons (.own (by simp) rfl (ld_opn0 (by simp) rfl hj)) .nil;rfl;rfl)|(with_reducible apply rw_stop (d := 35))|(apply rx_callE (k := 35);rfl;(apply within_c);(rfl);rfl))|refine stpb ?_|(refine stp2 ?_ ?_ <;> intro hc hq <;> try (exfalso;omega))|fail)
 all_goals (try (exfalso;omega))
 ·exfalso
  have h : (opn m j (.own 1 0 m[j]!.stk.length 2))[j]!.alive = false := by assumption
  rw [hog] at h;simp only [hal] at h;cases h
 refine rw_go ?_
 rw [hog]
 dsimp only
 repeat' (first|(apply id_rw;first|((apply rx_makeFuncFrzN 4);(case hx|hH|hc|hN => rfl))|(apply rx_lendG (k := 272) (D := [1]) (h := hidx);rfl;exact .cons (.own (by simp) rfl (.pur (inferInstance : Pur (flat cTg _)).pf)) (.cons (.pur rfl) .nil);rfl;rfl)|(with_reducible apply rw_stop (d := 41)))|refine stpb ?_|fail)
 refine rw_go ?_
 rw [hog]
 dsimp only
 repeat' (first|(apply id_rw;first|(apply rx_slice (d := 43) (l := k + 1) (h := m[j]!.stk.length);rfl;rfl;exact bnd_to rfl (by omega);rfl;exact if_pos (by omega);rfl)|(apply rx_cloneO;rfl;rfl;exact cloneO_c _ _ _ rfl (by omega);rfl;rfl)|(apply rx_delT;rfl;rfl;rfl;exact delT_c _ _ (by rw [List.length_drop]) (by omega);rfl;rfl)|(with_reducible apply rw_stop (d := 51)))|refine stpb ?_|fail)
 refine rw_go ?_
 rw [hog]
 dsimp only
 have hfl : (flat cTg m[j]!.stk).length = m[j]!.stk.length * 2 := flat_length cTg _
 have hsl : (shr (List.drop (k + 1) m[j]!.stk)).length ≤ 200 := Nat.le_trans (List.length_filter_le _ _) (by rw [List.length_drop]; omega)
 repeat' (first|(apply id_rw;first|(apply rx_slice (d := 53) (l := 0) (h := k + 1);rfl;rfl;rfl;exact bnd_to rfl (by omega);exact if_pos (by omega);rfl)|(apply rx_append;rfl;rfl;rfl;rfl;rfl;(rw [hfl]; omega);exact sC_tail (k := 0) rfl rfl;omega;omega;rfl;rfl;rfl)|(apply rx_store;rfl;rfl;rfl;rfl;rfl;(rw [flat_length]; simp only [lns] <;> omega);(exact st_opn (by (assumption)))))|refine stpb ?_|fail)
 have hre : r = m[j]!.stk.take (k + 1) ++ shr (m[j]!.stk.drop (k + 1)) := by rw [hr]; rfl
 have hrl : r.length = k + 1 + (shr (List.drop (k + 1) m[j]!.stk)).length := by rw [hre,List.length_append,List.length_take]; omega
 (refine rq_ret rfl ?_; refine mc_ret () trivial ?_ ⟨sE ?_,⟨sE ?_,trivial⟩⟩)
 ·rfl
 ·refine congrArg some ?_
  show flat cCo (opn m j (AV.own 5 0 (k + 1 - 0 + (shr (List.drop (k + 1) m[j]!.stk)).length) 2)) = _
  rw [hrl]; rfl
 ·refine congrArg some ?_
  show (List.drop 0 (flat cTg m[j]!.stk)).take ((k + 1) * 2) ++ flat cTg (List.drop 0 (shr (List.drop (k + 1) m[j]!.stk))) = _
  rw [List.drop_zero,List.drop_zero,flat_take cTg (e := 2),flat_append,← hre]
theorem st_opnV {m:List Cl}{j:Nat}{X:AV}{v:Int}(h:j < m.length):spl (flat cCo (opn m j X)) (0 + j * 4 + 0) [iv v] = flat cCo (opn (m.set j { m[j]! with val := v }) j X):=by
 have e : opn (m.set j { m[j]! with val := v }) j X = (opn m j X).set j ⟨v, m[j]!.alive, m[j]!.next, X⟩ := by
  have e2 : (m.set j { m[j]! with val := v })[j]! = { m[j]! with val := v } := by rw [getB _ _ (by rw [List.length_set]; exact h),List.getElem_set_self]
  unfold opn
  rw [e2,List.map_set,List.set_set,List.set_set]; rfl
 rw [e]
 exact st_flat (by rw [opn_len]; exact h) (by simp) (by rw [opn_get h]; rfl)
theorem st_opnA {m:List Cl}{j:Nat}{X:AV}{b:Bool}(h:j < m.length):spl (flat cCo (opn m j X)) (0 + j * 4 + 1) [.v (.bool b)] = flat cCo (opn (m.set j { m[j]! with alive := b }) j X):=by
 have e : opn (m.set j { m[j]! with alive := b }) j X = (opn m j X).set j ⟨m[j]!.val, b, m[j]!.next, X⟩ := by
  have e2 : (m.set j { m[j]! with alive := b })[j]! = { m[j]! with alive := b } := by rw [getB _ _ (by rw [List.length_set]; exact h),List.getElem_set_self]
  unfold opn
  rw [e2,List.map_set,List.set_set,List.set_set]; rfl
 rw [e]
 exact st_flat (by rw [opn_len]; exact h) (by simp) (by rw [opn_get h]; rfl)
theorem ReadCellI_c (m:List Cl) (hm:OkM m) (x:Pt):PC Tryz.prog 155 [sl cCl m,aPt x] (fun r => r = .tup [sl cCl (tchM m x false),iv (rdN m x),iv (tchK m x false)]):=by
 have hml := hm.l
 by_cases hk : tchK m x false = 0
 ·obtain ⟨c, t⟩ := x
  obtain ⟨h1,h2,h3,h4,_⟩ := tchK_in hk
  obtain ⟨j,rfl⟩ := Int.eq_ofNat_of_zero_le (show 0 ≤ c from h1)
  have hj : j < m.length := by have : (j : Int) < m.length := h2;omega
  obtain ⟨k,hkk⟩ := Int.eq_ofNat_of_zero_le (show 0 ≤ tgIx m[j]!.stk t from h4)
  obtain ⟨r,hr⟩ : ∃ r,r = tchS m[j]!.stk k false := ⟨_,rfl⟩
  have hto := touchR_c m j t r k m.length hm rfl hj hkk h3 hr
  have hog := opn_get (m := m) (j := j) (X := .own (0 + 1 + 3 + 3) 0 r.length 2) hj
  have hol := opn_len (m := m) (j := j) (X := .own (0 + 1 + 3 + 3) 0 r.length 2)
  refine pc_start Tryz.func155 Tryz.ntmps155 ?_
  repeat' (first|(apply id_rw;first|(apply rx_ownO (j := j);rfl;exact ownO_c m j hm hj;rfl;rfl)|(apply rx_touchR (m := m) (j := j) (t := t) (r := r) (n := m.length);rfl;rfl;rfl;rfl;rfl;rfl;exact hto;rfl;rfl))|refine stpb ?_|refine stpd ?_|fail)
  refine rq_le (Le.cls (o := 2) (q := 7) (j := j) (k := r.length) (m := m) (r := r) rfl rfl rfl hj (by decide)) ?_
  refine rq_le (Le.frzD (d := 4) (i := 2) rfl rfl) ?_
  rw [hog]
  refine rq_ret (l := [.imm m.length (flat cCl (m.set j { m[j]! with stk := r })),iv m[j]!.val,iv 0]) rfl ?_
  have eM : tchM m ⟨j, t⟩ false = m.set j { m[j]! with stk := r } := by
   unfold tchM tchC;rw [if_pos hk]; dsimp only
   rw [Int.toNat_natCast,hkk,Int.toNat_natCast,hr]
  have eN : rdN m ⟨j,t⟩ = m[j]!.val := by unfold rdN;rw [if_pos hk]; rfl
  rw [eM,eN,hk,sl_len (by rw [List.length_set])]
  exact ⟨rfl,by exact Pur.pf⟩
 ·refine pc_start Tryz.func155 Tryz.ntmps155 ?_
  repeat' (first|(apply id_rw;first|(apply rx_ownC;rfl;exact ownC_c m hm;rfl;rfl)|(apply rx_touchN (m := m) (x := x) (wr := false) (n := m.length);rfl;rfl;rfl;rfl;exact touchN_c m x false _ hm rfl hk;rfl;rfl))|refine stpb ?_|(refine stp2 ?_ ?_ <;> intro hc hq <;> try (exfalso;omega))|fail)
  (refine rq_le (Le.frzD (d := 4) (i := 2) rfl rfl) ?_; refine rq_ret rfl ?_)
  refine ⟨?_,by exact Pur.pf⟩
  simp only [oneOf]
  unfold tchM rdN;rw [if_neg hk,if_neg hk]
theorem FreeCellI_c (m:List Cl) (hm:OkM m) (x:Pt):PC Tryz.prog 216 [sl cCl m,aPt x] (fun r => r = .tup [sl cCl (frM m x),iv (tchK m x true)]):=by
 have hml := hm.l
 by_cases hk : tchK m x true = 0
 ·obtain ⟨c, t⟩ := x
  obtain ⟨h1,h2,h3,h4,hu⟩ := tchK_in hk
  obtain ⟨j,rfl⟩ := Int.eq_ofNat_of_zero_le (show 0 ≤ c from h1)
  have hj : j < m.length := by have : (j : Int) < m.length := h2;omega
  obtain ⟨k,hkk⟩ := Int.eq_ofNat_of_zero_le (show 0 ≤ tgIx m[j]!.stk t from h4)
  have huk : m[j]!.stk[k]!.uq = true := by
   have h : m[j]!.stk[(tgIx m[j]!.stk t).toNat]!.uq = true := hu rfl
   rwa [hkk,Int.toNat_natCast] at h
  have htw := touchW_c m j t k m.length hm rfl hj hkk h3 huk
  have hrl : (m[j]!.stk.take (k + 1)).length = k + 1 := by
   have hb := tgIx_bd m[j]!.stk t
   rw [List.length_take]; omega
  have hol := opn_len (m := m) (j := j) (X := .own (0 + 1 + 2) 0 (k + 1) 2)
  have hls : (m.set j { m[j]! with alive := false }).length = m.length := List.length_set
  refine pc_start Tryz.func216 Tryz.ntmps216 ?_
  repeat' (first|(apply id_rw;first|(apply rx_ownO (j := j);rfl;exact ownO_c m j hm hj;rfl;rfl)|(apply rx_touchW (m := m) (j := j) (t := t) (k := k) (n := m.length);rfl;rfl;rfl;rfl;rfl;rfl;exact htw;rfl;rfl)|(apply rx_store;rfl;rfl;rfl;rfl;rfl;(rw [flat_length]; simp only [List.length_append,List.length_cons,List.length_nil]; omega);exact st_opnA hj))|refine stpb ?_|fail)
  refine rq_le (Le.cls (o := 2) (q := 3) (j := j) (k := k + 1) (m := m.set j { m[j]! with alive := false }) (r := m[j]!.stk.take (k + 1)) rfl rfl hrl.symm (by rw [hls]; exact hj) (by decide)) ?_
  refine rq_le (Le.frzD (d := 4) (i := 2) rfl rfl) ?_
  rw [get_set hj,set_set]
  refine rq_ret (l := [.imm m.length (flat cCl (m.set j { m[j]! with alive := false,stk := m[j]!.stk.take (k + 1) })),iv 0]) rfl ?_
  have eM : frM m ⟨j, t⟩ = m.set j { m[j]! with alive := false, stk := m[j]!.stk.take (k + 1) } := by
   unfold frM tchC;rw [if_pos hk]; dsimp only
   rw [Int.toNat_natCast,hkk,Int.toNat_natCast]; unfold tchS;rw [if_pos rfl]
  rw [eM,hk,sl_len (by rw [List.length_set])]
  exact ⟨rfl,by exact Pur.pf⟩
 ·refine pc_start Tryz.func216 Tryz.ntmps216 ?_
  repeat' (first|(apply id_rw;first|(apply rx_ownC;rfl;exact ownC_c m hm;rfl;rfl)|(apply rx_touchN (m := m) (x := x) (wr := true) (n := m.length);rfl;rfl;rfl;rfl;exact touchN_c m x true _ hm rfl hk;rfl;rfl))|refine stpb ?_|(refine stp2 ?_ ?_ <;> intro hc hq <;> try (exfalso;omega))|fail)
  (refine rq_le (Le.frzD (d := 4) (i := 2) rfl rfl) ?_; refine rq_ret rfl ?_)
  refine ⟨?_,by exact Pur.pf⟩
  simp only [oneOf]
  unfold frM;rw [if_neg hk]
theorem WriteCellI_c (m:List Cl) (hm:OkM m) (x:Pt) (v:Int):PC Tryz.prog 156 [sl cCl m,aPt x,iv v] (fun r => r = .tup [sl cCl (wrM m x v),iv (wrK m x v)]):=by
 have hml := hm.l
 by_cases hv : 0 ≤ v ∧ v ≤ 9
 case neg =>
  have hwk : wrK m x v = 4 := by unfold wrK;rw [if_neg hv]
  have e : wrM m x v = m := by unfold wrM;rw [if_neg (by rw [hwk]; decide)]
  refine pc_start Tryz.func156 Tryz.ntmps156 ?_
  repeat' (first|(apply id_rw;first|(apply rx_ownC;rfl;exact ownC_c m hm;rfl;rfl)|(apply rx_callE (k := 35);rfl;(apply within_c);(rfl);rfl))|refine stpb ?_|(refine stp2 ?_ ?_ <;> intro hc hq <;> try (exfalso;omega))|fail)
  all_goals (try (exfalso;omega))
  all_goals (
   (refine rq_le (Le.frzD (d := 6) (i := 2) rfl rfl) ?_; refine rq_ret rfl ?_)
   refine ⟨?_,by exact Pur.pf⟩
   simp only [oneOf]
   rw [e,hwk])
 case pos =>
 have hwk : wrK m x v = tchK m x true := by unfold wrK;rw [if_pos hv]
 by_cases hk : tchK m x true = 0
 ·obtain ⟨c, t⟩ := x
  obtain ⟨h1,h2,h3,h4,hu⟩ := tchK_in hk
  obtain ⟨j,rfl⟩ := Int.eq_ofNat_of_zero_le (show 0 ≤ c from h1)
  have hj : j < m.length := by have : (j : Int) < m.length := h2;omega
  obtain ⟨k,hkk⟩ := Int.eq_ofNat_of_zero_le (show 0 ≤ tgIx m[j]!.stk t from h4)
  have huk : m[j]!.stk[k]!.uq = true := by
   have h : m[j]!.stk[(tgIx m[j]!.stk t).toNat]!.uq = true := hu rfl
   rwa [hkk,Int.toNat_natCast] at h
  have htw := touchW_c m j t k m.length hm rfl hj hkk h3 huk
  have hrl : (m[j]!.stk.take (k + 1)).length = k + 1 := by
   have hb := tgIx_bd m[j]!.stk t
   rw [List.length_take]; omega
  have hol := opn_len (m := m) (j := j) (X := .own (0 + 1 + 2) 0 (k + 1) 2)
  have hls : (m.set j { m[j]! with val := v }).length = m.length := List.length_set
  refine pc_start Tryz.func156 Tryz.ntmps156 ?_
  repeat' (first|(apply id_rw;first|(apply rx_ownO (j := j);rfl;exact ownO_c m j hm hj;rfl;rfl)|(apply rx_touchW (m := m) (j := j) (t := t) (k := k) (n := m.length);rfl;rfl;rfl;rfl;rfl;rfl;exact htw;rfl;rfl)|(apply rx_store;rfl;rfl;rfl;rfl;rfl;(rw [flat_length]; simp only [List.length_append,List.length_cons,List.length_nil]; omega);exact st_opnV hj)|(apply rx_callE (k := 35);rfl;(apply within_c);(rfl);rfl))|refine stpb ?_|(refine stp2 ?_ ?_ <;> intro hc hq <;> try (exfalso;omega))|fail)
  refine rq_le (Le.cls (o := 2) (q := 3) (j := j) (k := k + 1) (m := m.set j { m[j]! with val := v }) (r := m[j]!.stk.take (k + 1)) rfl rfl hrl.symm (by rw [hls]; exact hj) (by decide)) ?_
  refine rq_le (Le.frzD (d := 6) (i := 2) rfl rfl) ?_
  rw [get_set hj,set_set]
  refine rq_ret (l := [.imm m.length (flat cCl (m.set j { m[j]! with val := v,stk := m[j]!.stk.take (k + 1) })),iv 0]) rfl ?_
  have eM : wrM m ⟨j, t⟩ v = m.set j { m[j]! with val := v, stk := m[j]!.stk.take (k + 1) } := by
   unfold wrM tchC;rw [hwk,if_pos hk]; dsimp only
   rw [Int.toNat_natCast,hkk,Int.toNat_natCast]; unfold tchS;rw [if_pos rfl]
  rw [eM,hwk,hk,sl_len (by rw [List.length_set])]
  exact ⟨rfl,by exact Pur.pf⟩
 ·refine pc_start Tryz.func156 Tryz.ntmps156 ?_
  repeat' (first|(apply id_rw;first|(apply rx_ownC;rfl;exact ownC_c m hm;rfl;rfl)|(apply rx_touchN (m := m) (x := x) (wr := true) (n := m.length);rfl;rfl;rfl;rfl;exact touchN_c m x true _ hm rfl hk;rfl;rfl)|(apply rx_callE (k := 35);rfl;(apply within_c);(rfl);rfl))|refine stpb ?_|(refine stp2 ?_ ?_ <;> intro hc hq <;> try (exfalso;omega))|fail)
  (refine rq_le (Le.frzD (d := 6) (i := 2) rfl rfl) ?_; refine rq_ret rfl ?_)
  refine ⟨?_,by exact Pur.pf⟩
  simp only [oneOf]
  unfold wrM;rw [hwk,if_neg hk]
theorem newCellI_c (m:List Cl) (hm:OkM m) (v:Int):PC Tryz.prog 213 [sl cCl m,iv v] (fun r => r = .tup [sl cCl (m ++ [nwC v]),.agg [iv m.length,iv 0]]):=by
 have hml := hm.l
 refine pc_start Tryz.func213 Tryz.ntmps213 ?_
 repeat' (first|(apply id_rw;first|(apply rx_ownC;rfl;exact ownC_c m hm;rfl;rfl)|(apply rx_buildSliceI (t := _);rfl;rfl;rfl;(first|exact (rfl:_=some [_,_])|exact (rfl:_=some [_,_,_,_]));rfl;rfl))|refine stpb ?_|fail)
 have e2 : AV.imm (m.length + 1) (((flat cCl m).drop 0).take (m.length * 4) ++ [iv v, bv true, iv 1, .imm 1 [iv 0, bv true]]) = sl cCl (m ++ [nwC v]) := by
  have e : ((flat cCl m).drop 0).take (m.length * 4) ++ [iv v,bv true,iv 1,.imm 1 [iv 0,bv true]] = flat cCl (m ++ [nwC v]) := app_flat rfl rfl
  rw [e]; exact sl_len (by rw [List.length_append]; rfl)
 refine rq_le (Le.frzD (d := 4) (i := 5) rfl rfl) ?_
 refine rq_ret (l := [AV.imm (m.length + 1) (((flat cCl m).drop 0).take (m.length * 4) ++ [iv v,bv true,iv 1,.imm 1 [iv 0,bv true]]),.agg [iv m.length,iv 0]]) rfl ?_
 rw [e2]
 exact ⟨rfl,by exact Pur.pf⟩
theorem NewCellI_c (m:List Cl) (hm:OkM m) (v:Int):PC Tryz.prog 151 [sl cCl m,iv v] (fun r => r = .tup (if 0 ≤ v ∧ v ≤ 9 ∧ m.length < 200 then [sl cCl (m ++ [nwC v]),.agg [iv m.length,iv 0],bv true] else [sl cCl [],.agg [iv 0,iv 0],bv false])):=by
 have hml := hm.l
 have hcv := CellsValidI_c m hm
 have hnc := newCellI_c m hm v
 refine pc_start Tryz.func151 Tryz.ntmps151 ?_
 repeat' (first|(apply id_rw;first|(apply rx_callE (k := 195);rfl;exact hcv;exact Pur.pf;rfl)|(apply rx_callE (k := 213);rfl;exact hnc;exact Pur.pf;rfl)|(apply rx_callE (k := 35);rfl;(apply within_c);(rfl);rfl))|refine stpb ?_|(refine stp2 ?_ ?_ <;> intro hc hq <;> try (exfalso;omega))|(refine stp3 ?_ ?_ <;> intro hg hq <;> try (exfalso;omega))|refine stpd ?_|fail)
 ·refine rq_le (Le.nilImm (d := 4) rfl) ?_
  exact rq_ret (l := [sl cCl [],.agg [iv 0,iv 0],bv false]) rfl ⟨by rw [if_neg (by omega)]; rfl,rfl⟩
 ·exact rq_ret (l := [sl cCl (m ++ [nwC v]),.agg [iv m.length,iv 0],bv true]) rfl ⟨by rw [if_pos (by omega)]; rfl,by exact Pur.pf⟩
 ·refine rq_le (Le.nilImm (d := 4) rfl) ?_
  exact rq_ret (l := [sl cCl [],.agg [iv 0,iv 0],bv false]) rfl ⟨by rw [if_neg (by omega)]; rfl,rfl⟩
theorem rx_touchV {m:List Cl}{j:Nat}{t:Int}{r:List Tg}{n:Nat}{x0 x1 x2:Operand}{i0 i1:Nat}(ha0:ev (lk tsl) x0 = some (.own i0 0 n 4)) (ha1:ev (lk tsl) x1 = some (.agg [iv (j:Int),iv t])) (ha2:ev (lk tsl) x2 = some (bv true)) (hH0:lkH hsl i0 = some (flat cCo (opn m j (.own i1 0 m[j]!.stk.length 2)))) (hH1:lkH hsl i1 = some (flat cTg m[j]!.stk)) (hdd:Go.AL.distinct [i0,i1] = true) (hmc:MC Tryz.prog 215 [.own 0 0 n 4,.agg [iv (j:Int),iv t],bv true] [(0,some (flat cCo (opn m j (.own 1 0 m[j]!.stk.length 2)))),(1,some (flat cTg m[j]!.stk))] 2 (fun _:Unit => True) (fun _ => iv 0) (fun _ => [(0,some (flat cCo (opn m j (.own 1 0 r.length 2)))),(1,some (flat cTg r))])) (hM:Nat.ble (nidl + 0) big = true) (hN:Nat.blt d N = true){md':Md}[hmd:MdA md (rOs [x0,x1,x2] ++ [.inr i0,.inr i1]) (List.map Sum.inr (List.map Prod.fst ([(i0,some (flat cCo (opn m j (.own i1 0 r.length 2)))),(i1,some (flat cTg r))]:List (Nat × Option (List AV)))) ++ [.inl d]) md'] (kk:RW Tryz.prog N all Q md' rest ⟨(d,iv 0) :: tsl,wrH hsl [(i0,some (flat cCo (opn m j (.own i1 0 r.length 2)))),(i1,some (flat cTg r))],nidl + 0,z0⟩):RW Tryz.prog N all Q md (⟨some d,.call ⟨.value (.func 215),#[x0,x1,x2],tys⟩,ty,pos,af,none⟩ :: rest) ⟨tsl,hsl,nidl,z0⟩:=by
 exact rx_mcallA (l := [x0,x1,x2]) [i0,i1] 2 [(i0,some (flat cCo (opn m j (.own i1 0 r.length 2)))),(i1,some (flat cTg r))] hmc (avs := [.own i0 0 n 4,.agg [iv (j : Int),iv t],bv true]) (by simp only [evL,ha0,ha1,ha2]) hdd hM hN (md' := md') (hmd := hmd) kk
theorem touchV_c (m:List Cl) (j:Nat) (t:Int) (r:List Tg) (k n:Nat) (hm:OkM m) (hn:n = m.length) (hj:j < m.length) (hk:tgIx m[j]!.stk t = (k:Int)) (hal:m[j]!.alive = true) (hu:m[j]!.stk[k]!.uq = true) (hre:m[j]!.stk.take (k + 1) = r) (hrk:k + 1 = r.length):MC Tryz.prog 215 [.own 0 0 n 4,.agg [iv (j:Int),iv t],bv true] [(0,some (flat cCo (opn m j (.own 1 0 m[j]!.stk.length 2)))),(1,some (flat cTg m[j]!.stk))] 2 (fun _:Unit => True) (fun _ => iv 0) (fun _ => [(0,some (flat cCo (opn m j (.own 1 0 r.length 2)))),(1,some (flat cTg r))]):=by
 have h := touchW_c m j t k n hm hn hj hk hal hu
 rw [hre,hrk] at h
 exact h
theorem lentF_c (m:List Cl) (hm:OkM m) (j k:Nat) (t:Int) (r:List Tg) (hj:j < m.length) (hkk:tgIx m[j]!.stk t = (k:Int)) (hk:tchK m ⟨(j:Int),t⟩ false = 0) (hr:r = tchS m[j]!.stk k false):PC Tryz.prog 153 [sl cCl m,.agg [iv (j:Int),iv t],bv false] (fun z => z = .tup [sl cCl (pshM m m j false r),aPt (pshP m j r),iv (pshK m j r)]):=by
 have hml := hm.l
 obtain ⟨h1,h2,h3,h4,hu⟩ := tchK_in hk
 have hc := ((OkM_iff m).1 hm).2 j hj
 have hb := tgIx_bd m[j]!.stk t
 have hrl : r.length ≤ 200 := by rw [hr]; exact Nat.le_trans tchS_sub.length_le hc.l.2
 have hnx := hc.n
 obtain ⟨_,e2,_⟩ := lnK_0 hk (r := r) (by rw [hr]; show _ = tchS m[j]!.stk (tgIx m[j]!.stk t).toNat false;rw [hkk]; rfl)
 have e2' : lnM m ⟨(j : Int),t⟩ false = pshM m m j false r := e2
 have hok := hm.ln ⟨(j : Int),t⟩ false
 rw [e2'] at hok
 have hto := touchR_c m j t r k m.length hm rfl hj hkk h3 hr
 have hog := opn_get (m := m) (j := j) (X := .own (0 + 1 + 1 + 3 + 3) 0 r.length 2) hj
 have hol := opn_len (m := m) (j := j) (X := .own (0 + 1 + 1 + 3 + 3) 0 r.length 2)
 have hol2 := opn_len (m := m) (j := j) (X := .own (0 + 1 + 1 + 3 + 4 + 1) 0 (r.length + 1) 2)
 have hm2 : (m.set j { m[j]! with next := m[j]!.next + 1 }).length = m.length := List.length_set
 refine pc_start Tryz.func153 Tryz.ntmps153 ?_
 repeat' (first|(apply id_rw;first|(apply rx_ownO (j := j);rfl;exact ownO_c m j hm hj;rfl;rfl)|(apply rx_touchR (m := m) (j := j) (t := t) (r := r) (n := m.length);rfl;rfl;rfl;rfl;rfl;rfl;exact hto;rfl;rfl)|(with_reducible apply rw_stop (d := 32)))|refine stpb ?_|fail)
 refine rw_go ?_
 rw [hog]
 dsimp only
 by_cases hf : pshF m j r
 ·have eM : pshM m m j false r = m := by unfold pshM; rw [if_pos hf]
  have eP : pshP m j r = ⟨0,0⟩ := by unfold pshP;rw [if_pos hf]
  have eK : pshK m j r = 4 := by unfold pshK;rw [if_pos hf]
  rw [eM,eP,eK]
  unfold pshF at hf
  repeat' (first|(apply id_rw;first|(apply rx_ownC;rfl;exact ownC_c m hm;rfl;rfl)|(with_reducible apply rw_stop (d := 44)))|refine stpb ?_|(refine stp2 ?_ ?_ <;> intro hc hq <;> try (exfalso;omega))|(refine stp3 ?_ ?_ <;> intro hg hq <;> try (exfalso;omega))|fail)
  ·refine rq_le (Le.frzD (d := 6) (i := 10) rfl rfl) ?_
   exact rq_ret (l := [sl cCl m,.agg [iv 0,iv 0],iv 4]) rfl ⟨rfl,by exact Pur.pf⟩
  ·exfalso
   have h : ¬ (opn m j (.own (0 + 1 + 1 + 3 + 3) 0 r.length 2))[j]!.next = 1000 := by assumption
   rw [hog] at h
   dsimp only at h
   omega
  ·refine rq_le (Le.frzD (d := 6) (i := 10) rfl rfl) ?_
   exact rq_ret (l := [sl cCl m,.agg [iv 0,iv 0],iv 4]) rfl ⟨rfl,by exact Pur.pf⟩
 ·have eM : pshM m m j false r = m.set j (psh { m[j]! with stk := r } false) := by unfold pshM; rw [if_neg hf]
  have eP : pshP m j r = ⟨j,m[j]!.next⟩ := by unfold pshP;rw [if_neg hf]
  have eK : pshK m j r = 0 := by unfold pshK;rw [if_neg hf]
  rw [eM] at hok
  rw [eM,eP,eK]
  unfold pshF at hf
  have hown := ownC_c _ hok
  repeat' (first|(apply id_rw;first|(with_reducible apply rw_stop (d := 41))|(with_reducible apply rw_stop (d := 54)))|refine stpb ?_|(refine stp2 ?_ ?_ <;> intro hc hq <;> try (exfalso;omega))|(refine stp3 ?_ ?_ <;> intro hg hq <;> try (exfalso;omega))|fail)
  ·exfalso
   have h : (opn m j (.own (0 + 1 + 1 + 3 + 3) 0 r.length 2))[j]!.next = 1000 := by assumption
   rw [hog] at h
   dsimp only at h
   omega
  ·refine rw_go ?_
   rw [hog]
   dsimp only
   repeat' (first|(apply id_rw;first|(apply rx_store;rfl;rfl;rfl;rfl;rfl;(rw [flat_length,opn_len]; simp only [List.length_append,List.length_cons,List.length_nil]; omega);(first|exact st_opn hj|exact st_opnN hj))|(apply rx_append;rfl;rfl;rfl;rfl;rfl;(rw [flat_length]; omega);(rfl);omega;omega;(exact app_tg (by (omega)));rfl;rfl)|(apply rx_buildSliceI (t := _);rfl;rfl;rfl;(exact (rfl:_=some [_,_]));rfl;rfl))|refine stpb ?_|fail)
   refine AW.le ?_ (Le.cls (o := 3) (q := 0 + 1 + 1 + 3 + 4 + 1) (j := j) (k := r.length + 1) (m := m.set j { m[j]! with next := m[j]!.next + 1 }) (r := r ++ [⟨m[j]!.next,false⟩]) rfl rfl (by (rw [List.length_append]; rfl)) (by omega) (by decide))
   refine AW.le ?_ (Le.frzD (d := 9) (i := 3) rfl rfl)
   have e : (m.set j { m[j]! with next := m[j]!.next + 1 }).set j { (m.set j { m[j]! with next := m[j]!.next + 1 })[j]! with stk := r ++ [⟨m[j]!.next, false⟩] } = m.set j (psh { m[j]! with stk := r } false) := by
    rw [get_set hj,set_set]; rfl
   rw [e,sl_len (f := cCl) (xs := m.set j (psh { m[j]! with stk := r } false)) (by rw [List.length_set])]
   repeat' (first|(apply id_rw;(apply rx_ownC;rfl;exact hown;rfl;rfl))|refine stpb ?_|refine stpd ?_|fail)
   refine rq_le (Le.frzD (d := 6) (i := 12) rfl rfl) ?_
   exact rq_ret (l := [sl cCl (m.set j (psh { m[j]! with stk := r } false)),.agg [iv (j : Int),iv m[j]!.next],iv 0]) rfl ⟨rfl,by exact Pur.pf⟩
  all_goals (exfalso;omega)
theorem lentT_c (m:List Cl) (hm:OkM m) (j k:Nat) (t:Int) (r:List Tg) (hj:j < m.length) (hkk:tgIx m[j]!.stk t = (k:Int)) (hk:tchK m ⟨(j:Int),t⟩ true = 0) (hr:r = tchS m[j]!.stk k true):PC Tryz.prog 153 [sl cCl m,.agg [iv (j:Int),iv t],bv true] (fun z => z = .tup [sl cCl (pshM m m j true r),aPt (pshP m j r),iv (pshK m j r)]):=by
 have hml := hm.l
 obtain ⟨h1,h2,h3,h4,hu⟩ := tchK_in hk
 have hc := ((OkM_iff m).1 hm).2 j hj
 have hb := tgIx_bd m[j]!.stk t
 have hrl : r.length ≤ 200 := by rw [hr]; exact Nat.le_trans tchS_sub.length_le hc.l.2
 have hnx := hc.n
 obtain ⟨_,e2,_⟩ := lnK_0 hk (r := r) (by rw [hr]; show _ = tchS m[j]!.stk (tgIx m[j]!.stk t).toNat true;rw [hkk]; rfl)
 have e2' : lnM m ⟨(j : Int),t⟩ true = pshM m m j true r := e2
 have hok := hm.ln ⟨(j : Int),t⟩ true
 rw [e2'] at hok
 have huk : m[j]!.stk[k]!.uq = true := by
  have h : m[j]!.stk[(tgIx m[j]!.stk t).toNat]!.uq = true := hu rfl
  rwa [hkk,Int.toNat_natCast] at h
 have hre : m[j]!.stk.take (k + 1) = r := by rw [hr]; unfold tchS;rw [if_pos rfl]
 have hrk : k + 1 = r.length := by rw [← hre,List.length_take]; omega
 have hto := touchV_c m j t r k m.length hm rfl hj hkk h3 huk hre hrk
 clear hre hrk huk hu hr hkk
 have hog := opn_get (m := m) (j := j) (X := .own (0 + 1 + 1 + 2) 0 r.length 2) hj
 have hol := opn_len (m := m) (j := j) (X := .own (0 + 1 + 1 + 2) 0 r.length 2)
 have hol2 := opn_len (m := m) (j := j) (X := .own (0 + 1 + 1 + 3 + 0 + 1) 0 (r.length + 1) 2)
 have hm2 : (m.set j { m[j]! with next := m[j]!.next + 1 }).length = m.length := List.length_set
 refine pc_start Tryz.func153 Tryz.ntmps153 ?_
 repeat' (first|(apply id_rw;first|(apply rx_ownO (j := j);rfl;exact ownO_c m j hm hj;rfl;rfl)|(apply rx_touchV (m := m) (j := j) (t := t) (r := r) (n := m.length);rfl;rfl;rfl;rfl;rfl;rfl;exact hto;rfl;rfl)|(with_reducible apply rw_stop (d := 32)))|refine stpb ?_|fail)
 refine rw_go ?_
 rw [hog]
 dsimp only
 by_cases hf : pshF m j r
 ·have eM : pshM m m j true r = m := by unfold pshM; rw [if_pos hf]
  have eP : pshP m j r = ⟨0,0⟩ := by unfold pshP;rw [if_pos hf]
  have eK : pshK m j r = 4 := by unfold pshK;rw [if_pos hf]
  rw [eM,eP,eK]
  unfold pshF at hf
  repeat' (first|(apply id_rw;first|(apply rx_ownC;rfl;exact ownC_c m hm;rfl;rfl)|(with_reducible apply rw_stop (d := 44)))|refine stpb ?_|(refine stp2 ?_ ?_ <;> intro hc hq <;> try (exfalso;omega))|(refine stp3 ?_ ?_ <;> intro hg hq <;> try (exfalso;omega))|fail)
  ·refine rq_le (Le.frzD (d := 6) (i := 6) rfl rfl) ?_
   exact rq_ret (l := [sl cCl m,.agg [iv 0,iv 0],iv 4]) rfl ⟨rfl,by exact Pur.pf⟩
  ·exfalso
   have h : ¬ (opn m j (.own (0 + 1 + 1 + 2) 0 r.length 2))[j]!.next = 1000 := by assumption
   rw [hog] at h
   dsimp only at h
   omega
  ·refine rq_le (Le.frzD (d := 6) (i := 6) rfl rfl) ?_
   exact rq_ret (l := [sl cCl m,.agg [iv 0,iv 0],iv 4]) rfl ⟨rfl,by exact Pur.pf⟩
 ·have eM : pshM m m j true r = m.set j (psh { m[j]! with stk := r } true) := by unfold pshM; rw [if_neg hf]
  have eP : pshP m j r = ⟨j,m[j]!.next⟩ := by unfold pshP;rw [if_neg hf]
  have eK : pshK m j r = 0 := by unfold pshK;rw [if_neg hf]
  rw [eM] at hok
  rw [eM,eP,eK]
  unfold pshF at hf
  have hown := ownC_c _ hok
  repeat' (first|(apply id_rw;first|(with_reducible apply rw_stop (d := 41))|(with_reducible apply rw_stop (d := 54)))|refine stpb ?_|(refine stp2 ?_ ?_ <;> intro hc hq <;> try (exfalso;omega))|(refine stp3 ?_ ?_ <;> intro hg hq <;> try (exfalso;omega))|fail)
  ·exfalso
   have h : (opn m j (.own (0 + 1 + 1 + 2) 0 r.length 2))[j]!.next = 1000 := by assumption
   rw [hog] at h
   dsimp only at h
   omega
  ·refine rw_go ?_
   rw [hog]
   dsimp only
   repeat' (first|(apply id_rw;first|(apply rx_store;rfl;rfl;rfl;rfl;rfl;(rw [flat_length,opn_len]; simp only [List.length_append,List.length_cons,List.length_nil]; omega);(first|exact st_opn hj|exact st_opnN hj))|(apply rx_append;rfl;rfl;rfl;rfl;rfl;(rw [flat_length]; omega);(rfl);omega;omega;(exact app_tg (by (omega)));rfl;rfl)|(apply rx_buildSliceI (t := _);rfl;rfl;rfl;(exact (rfl:_=some [_,_]));rfl;rfl))|refine stpb ?_|fail)
   refine AW.le ?_ (Le.cls (o := 3) (q := 0 + 1 + 1 + 3 + 0 + 1) (j := j) (k := r.length + 1) (m := m.set j { m[j]! with next := m[j]!.next + 1 }) (r := r ++ [⟨m[j]!.next,true⟩]) rfl rfl (by (rw [List.length_append]; rfl)) (by omega) (by decide))
   refine AW.le ?_ (Le.frzD (d := 9) (i := 3) rfl rfl)
   have e : (m.set j { m[j]! with next := m[j]!.next + 1 }).set j { (m.set j { m[j]! with next := m[j]!.next + 1 })[j]! with stk := r ++ [⟨m[j]!.next, true⟩] } = m.set j (psh { m[j]! with stk := r } true) := by
    rw [get_set hj,set_set]; rfl
   rw [e,sl_len (f := cCl) (xs := m.set j (psh { m[j]! with stk := r } true)) (by rw [List.length_set])]
   repeat' (first|(apply id_rw;(apply rx_ownC;rfl;exact hown;rfl;rfl))|refine stpb ?_|refine stpd ?_|fail)
   refine rq_le (Le.frzD (d := 6) (i := 8) rfl rfl) ?_
   exact rq_ret (l := [sl cCl (m.set j (psh { m[j]! with stk := r } true)),.agg [iv (j : Int),iv m[j]!.next],iv 0]) rfl ⟨rfl,by exact Pur.pf⟩
  all_goals (exfalso;omega)
theorem lentI_c (m:List Cl) (hm:OkM m) (x:Pt) (u:Bool):PC Tryz.prog 153 [sl cCl m,aPt x,bv u] (fun r => r = .tup [sl cCl (lnM m x u),aPt (lnP m x u),iv (lnK m x u)]):=by
 have hml := hm.l
 by_cases hk : tchK m x u = 0
 ·obtain ⟨c, t⟩ := x
  obtain ⟨h1,h2,h3,h4,hu⟩ := tchK_in hk
  obtain ⟨j,rfl⟩ := Int.eq_ofNat_of_zero_le (show 0 ≤ c from h1)
  have hj : j < m.length := by have : (j : Int) < m.length := h2;omega
  obtain ⟨k,hkk⟩ := Int.eq_ofNat_of_zero_le (show 0 ≤ tgIx m[j]!.stk t from h4)
  obtain ⟨r,hr⟩ : ∃ r,r = tchS m[j]!.stk k u := ⟨_,rfl⟩
  obtain ⟨e1,e2,e3⟩ := lnK_0 hk (r := r) (by rw [hr]; show _ = tchS m[j]!.stk (tgIx m[j]!.stk t).toNat u;rw [hkk]; rfl)
  rw [e1,e2,e3]
  cases u
  ·exact lentF_c m hm j k t r hj hkk hk hr
  ·exact lentT_c m hm j k t r hj hkk hk hr
 ·obtain ⟨e1, e2, e3⟩ := lnK_n hk
  rw [e1,e2,e3]
  refine pc_start Tryz.func153 Tryz.ntmps153 ?_
  repeat' (first|(apply id_rw;first|(apply rx_ownC;rfl;exact ownC_c m hm;rfl;rfl)|(apply rx_touchN (m := m) (x := x) (wr := u) (n := m.length);rfl;rfl;rfl;rfl;exact touchN_c m x u _ hm rfl hk;rfl;rfl))|refine stpb ?_|(refine stp2 ?_ ?_ <;> intro hc hq <;> try (exfalso;omega))|fail)
  refine rq_le (Le.frzD (d := 6) (i := 3) rfl rfl) ?_
  exact rq_ret (l := [sl cCl m,.agg [iv 0,iv 0],iv (tchK m x u)]) rfl ⟨rfl,by exact Pur.pf⟩
end Go.Proofs.YtjnhlgpbojggnaaGreatDoor
