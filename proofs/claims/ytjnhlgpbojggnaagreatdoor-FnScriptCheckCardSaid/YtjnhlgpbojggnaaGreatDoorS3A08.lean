/-
 A part of the proofs over this program: rules and contracts of its functions (the rules).
-/
import Derived.Test.YtjnhlgpbojggnaaGreatDoorS3A07
set_option linter.unusedVariables false
set_option linter.unusedSimpArgs false
namespace Go.AL
open Go.RowKit
def famB (R : List (List Bool)) : List (Nat × Option (List AV)) := (List.range R.length).map fun k => (k + big,some (flat cB R[k]!))
theorem lkH_mapk (g:Nat → List AV) (j:Nat):∀ ks:List Nat,lkH (ks.map fun k => (k + big,some (g k))) (j + big) = if j ∈ ks then some (g j) else none
 | [] => by simp [lkH]
 | k :: ks => by
  rw [List.map_cons,lkH_c,lkH_mapk g j ks]
  by_cases h : j = k
  ·subst h;simp
  ·rw [if_neg (by omega)]; simp [h]
theorem lkH_mapl (g:Nat → List AV) (i:Nat) (hi:i < big):∀ ks:List Nat,lkH (ks.map fun k => (k + big,some (g k))) i = none
 | [] => by simp [lkH]
 | k :: ks => by
  rw [List.map_cons,lkH_c,lkH_mapl g i hi ks,if_neg (by omega)]
theorem lkH_fam (R:List (List Bool)) (k:Nat):lkH (famB R) (k + big) = if k < R.length then some (flat cB R[k]!) else none:=by
 unfold famB;rw [lkH_mapk (fun k => flat cB R[k]!)]; simp
theorem lkH_faml (R:List (List Bool)) (i:Nat) (hi:i < big):lkH (famB R) i = none := lkH_mapl _ i hi _
theorem lkH_fam' {R:List (List Bool)}{i:Nat}{cs:List AV}(h:lkH (famB R) i = some cs):∃ k,k < R.length ∧ i = k + big ∧ cs = flat cB R[k]!:=by
 rcases Nat.lt_or_ge i big with hi|hi
 ·rw [lkH_faml R i hi] at h;cases h
 ·obtain ⟨k, rfl⟩ : ∃ k, i = k + big := ⟨i - big, by omega⟩
  rw [lkH_fam] at h
  split at h
  ·cases h;exact ⟨k,by assumption,rfl,rfl⟩
  ·cases h
inductive FamR (R R' : List (List Bool)) : List (Nat × Option (List AV)) → List (Nat × Option (List AV)) → Prop
 | here : FamR R R' (famB R) (famB R')
 | cons {t : Nat} {v : Option (List AV)} {l l' : List (Nat × Option (List AV))} : Nat.blt t big = true → FamR R R' l l' → FamR R R' ((t,v) :: l) ((t,v) :: l')
theorem FamR.nil:FamR [] [] [] [] := FamR.here
theorem FamR.fam {R R':List (List Bool)}{hs hs':List (Nat × Option (List AV))}(h:FamR R R' hs hs') (k:Nat):lkH hs (k + big) = if k < R.length then some (flat cB R[k]!) else none:=by
 induction h with
 | here => exact lkH_fam R k
 | cons ht _ ih => rw [lkH_c,if_neg (by have := ltb ht;omega)]; exact ih
theorem FamR.symm {R R':List (List Bool)}{hs hs':List (Nat × Option (List AV))}(h:FamR R R' hs hs'):FamR R' R hs' hs:=by
 induction h with
 | here => exact .here
 | cons ht _ ih => exact .cons ht ih
theorem FamR.low {R R':List (List Bool)}{hs hs':List (Nat × Option (List AV))}(h:FamR R R' hs hs') (i:Nat) (hi:i < big):lkH hs i = lkH hs' i:=by
 induction h with
 | here => rw [lkH_faml R i hi,lkH_faml R' i hi]
 | cons ht _ ih => rw [lkH_c,lkH_c,ih]
theorem FamR.get {R R':List (List Bool)}{hs hs':List (Nat × Option (List AV))}(h:FamR R R' hs hs'){k:Nat}(hk:k < R.length):lkH hs (k + big) = some (flat cB R[k]!) := by rw [h.fam,if_pos hk]
theorem set_getB {α:Type}[Inhabited α] (xs:List α) (i j:Nat) (x:α):(xs.set i x)[j]! = if i = j ∧ j < xs.length then x else xs[j]! := set_get xs i j x
theorem Le.fset {ts:List (Nat × AV)}{hs hs':List (Nat × Option (List AV))}{n:Nat}{z0:Lo}{k:Nat}{r:List Bool}{R:List (List Bool)}(hF:FamR R (R.set k r) hs hs') (hk:k < R.length) :
  Le ⟨ts,(k + big,some (flat cB r)) :: hs,n,z0⟩ ⟨ts,hs',n,z0⟩ := by
 refine Le.of (fun _ _ h => h) (fun i cs h => ?_) (Nat.le_refl _) rfl
 have h' : lkH hs' i = some cs := h
 show lkH ((k + big,some (flat cB r)) :: hs) i = some cs
 rcases Nat.lt_or_ge i big with hi|hi
 ·rw [lkH_c,if_neg (by omega),hF.low i hi]; exact h'
 ·obtain ⟨j, rfl⟩ : ∃ j, i = j + big := ⟨i - big, by omega⟩
  rw [hF.symm.fam] at h'
  split at h'
  ·rename_i hj
   rw [List.length_set] at hj
   rw [set_getB] at h'
   rw [lkH_c]
   by_cases e : j = k
   ·subst e;rw [if_pos ⟨rfl,hk⟩] at h'; rw [if_pos rfl]; exact h'
   ·rw [if_neg (fun q => e q.1.symm)] at h'
    rw [if_neg (by omega),hF.get hj]; exact h'
  ·cases h'
variable {P : Program} {N : Nat} {Q : Exit → AS → Prop} {all : Array Oper} {rest : List Oper} {ts : List (Nat × AV)} {hs : List (Nat × Option (List AV))} {n : Nat} {z0 : Lo} {md : Md}
variable {d : Nat} {ty : TypeId} {pos : String} {af : Array Edge}
section
theorem flatB_at {xs:List Bool}{q:Nat}(h:q < xs.length):(flat cB xs).drop q = .v (.bool xs[q]!) :: flat cB (xs.drop (q + 1)):=by
 have := flat_drop cB (e := 1) xs q h
 rw [Nat.mul_one] at this;rw [this]; rfl
theorem rx_loadB {t:TypeId}{x:Operand}{k v:Nat}{R:List (List Bool)}[ha:AgT P t false] (hx:ev (lk ts) x = some (.optr (k + big) (0 + v * 1))) (hF:FamR R R hs hs) (hk:k < R.length) (hv:v < R[k]!.length)
  (hN : Nat.blt d N = true) {md' : Md} [hmd : MdA md (rO x ++ [.inr (k + big)]) [.inl d] md'] (kk : RW P N all Q md' rest ⟨(d,.v (.bool R[k]![v]!)) :: ts,hs,n,z0⟩) : RW P N all Q md (⟨some d,.load t x,ty,pos,af,none⟩ :: rest) ⟨ts,hs,n,z0⟩ := by
 refine rw_load1 (cs := (flat cB R[k]!).drop (0 + v * 1)) (c := .v (.bool R[k]![v]!)) hx ha.pf ?_ ?_ (ltb hN) (by rw [← hmd.pf] at kk;exact kk)
 ·simp only [deref,hF.get hk,Option.map_some]
 ·rw [Nat.zero_add,Nat.mul_one,flatB_at hv]; rfl
theorem rx_storeB {t:TypeId}{x y:Operand}{k v:Nat}{b:Bool}{R:List (List Bool)}{hs':List (Nat × Option (List AV))}[hz:SzT P t 1] (hx:ev (lk ts) x = some (.optr (k + big) (0 + v * 1))) (hy:ev (lk ts) y = some (.v (.bool b)))
  (hF : FamR R (R.set k (R[k]!.set v b)) hs hs') (hk : k < R.length) (hv : v < R[k]!.length)
  (kk : RW P N all Q .txt rest ⟨ts,hs',n,z0⟩) : RW P N all Q .txt (⟨none,.store t x y,ty,pos,af,none⟩ :: rest) ⟨ts,hs,n,z0⟩ := by
 refine rx_store (md' := .txt) (cs := flat cB R[k]!) (new := [.v (.bool b)]) (cs' := flat cB (R[k]!.set v b)) hx hy rfl rfl (hF.get hk) ?_ ?_ (rw_le kk (Le.fset hF hk))
 ·rw [flat_length cB (e := 1),List.length_singleton]; omega
 ·exact st_flat0 hv rfl
theorem rx_indexRg {f g:Nat → List AV}{t el e m k M:Nat}{x i:Operand}{kk0:IntKind}[ht:SlT P t el] [he:SzT P el e] (hx:ev (lk ts) x = some (.imm m (flat f (List.range M))))
  (hi : ev (lk ts) i = some (.v (.int kk0 (k : Int)))) (hm : k < m) (hml : m = M) (hf : FlT f e) (hg : FE f g) (hN : Nat.blt d N = true) {md' : Md} [hmd : MdA md (rO x ++ rO i) [.inl d] md'] (kk : RW P N all Q md' rest ⟨(d,.iptr (g k ++ flat f ((List.range M).drop (k + 1)))) :: ts,hs,n,z0⟩) :
  RW P N all Q md (⟨some d,.indexAddr t x i,ty,pos,af,none⟩ :: rest) ⟨ts,hs,n,z0⟩ := by
 have e1 : (List.range M)[k]! = k := by rw [getB _ k (by simp;omega)]; simp
 exact rx_indexFN hx hi hm (by simpa using hml) hf hg hN (md' := md') (hmd := hmd) (by rw [e1]; exact kk)
theorem rx_indexRgI {f g:Nat → List AV}{t el e m M:Nat}{k:Int}{x i:Operand}{kk0:IntKind}[ht:SlT P t el] [he:SzT P el e] (hx:ev (lk ts) x = some (.imm m (flat f (List.range M))))
  (hi : ev (lk ts) i = some (.v (.int kk0 k))) (hm : 0 ≤ k ∧ k < m) (hml : m = M) (hf : FlT f e) (hg : FE f g) (hN : Nat.blt d N = true) {md' : Md} [hmd : MdA md (rO x ++ rO i) [.inl d] md'] (kk : RW P N all Q md' rest ⟨(d,.iptr (g k.toNat ++ flat f ((List.range M).drop (k.toNat + 1)))) :: ts,hs,n,z0⟩) :
  RW P N all Q md (⟨some d,.indexAddr t x i,ty,pos,af,none⟩ :: rest) ⟨ts,hs,n,z0⟩ := by
 have e1 : (List.range M)[k.toNat]! = k.toNat := by rw [getB _ k.toNat (by simp;omega)]; simp
 exact rx_indexF hx hi hm (by simpa using hml) hf hg hN (md' := md') (hmd := hmd) (by rw [e1]; exact kk)
end
def cRw (b w : Nat) (k : Nat) : List AV := [.own (b + k + big) 0 w 1]
instance (b w : Nat) : FlT (cRw b w) 1:=⟨fun _ => rfl⟩
instance (b w : Nat) : FE (cRw b w) (fun k => [.own (b + k + big) 0 w 1]):=⟨fun _ => rfl⟩
mutual
inductive Ld (D : List Nat) (H : Nat → Option (List AV)) : AV → AV → Prop
 | pur {v : AV} : v.pur = true → Ld D H v v
 | own {id m e : Nat} {cs cs' : List AV} : id ∈ D → H id = some cs → LdL D H cs cs' → Ld D H (.own id 0 m e) (.imm m cs')
 | optr {id : Nat} {cs cs' : List AV} : id ∈ D → H id = some cs → LdL D H cs cs' → Ld D H (.optr id 0) (.iptr cs')
 | imm {m : Nat} {cs cs' : List AV} : LdL D H cs cs' → Ld D H (.imm m cs) (.imm m cs')
 | agg {cs cs' : List AV} : LdL D H cs cs' → Ld D H (.agg cs) (.agg cs')
inductive LdL (D : List Nat) (H : Nat → Option (List AV)) : List AV → List AV → Prop
 | pur {v : List AV} : pursB v = true → LdL D H v v
 | nil : LdL D H [] []
 | cons {c c' : AV} {cs cs' : List AV} : Ld D H c c' → LdL D H cs cs' → LdL D H (c :: cs) (c' :: cs')
end
mutual
theorem Ld.agr {D:List Nat}{H H':Nat → Option (List AV)}(h:∀ id ∈ D,H id = H' id):∀ {v v':AV},Ld D H v v' → Ld D H' v v'
 | _,_,.pur hp => .pur hp
 | _,_,.own h1 h2 h3 => .own h1 (by rw [← h _ h1]; exact h2) (LdL.agr h h3)
 | _,_,.optr h1 h2 h3 => .optr h1 (by rw [← h _ h1]; exact h2) (LdL.agr h h3)
 | _,_,.imm h3 => .imm (LdL.agr h h3)
 | _,_,.agg h3 => .agg (LdL.agr h h3)
theorem LdL.agr {D:List Nat}{H H':Nat → Option (List AV)}(h:∀ id ∈ D,H id = H' id):∀ {v v':List AV},LdL D H v v' → LdL D H' v v'
 | _,_,.pur hp => .pur hp
 | _,_,.nil => .nil
 | _,_,.cons h1 h2 => .cons (Ld.agr h h1) (LdL.agr h h2)
end
mutual
theorem Ld.purR {D:List Nat}{H:Nat → Option (List AV)}:∀ {v v':AV},Ld D H v v' → v'.pur = true
 | _,_,.pur hp => hp
 | _,_,.own h1 h2 h3 => LdL.purR h3
 | _,_,.optr h1 h2 h3 => LdL.purR h3
 | _,_,.imm h3 => LdL.purR h3
 | _,_,.agg h3 => LdL.purR h3
theorem LdL.purR {D:List Nat}{H:Nat → Option (List AV)}:∀ {v v':List AV},LdL D H v v' → pursB v' = true
 | _,_,.pur hp => hp
 | _,_,.nil => rfl
 | _,_,.cons h1 h2 => by simp only [pursB,Ld.purR h1,LdL.purR h2,Bool.and_self]
end
theorem LdL.len {D:List Nat}{H:Nat → Option (List AV)}:∀ {v v':List AV},LdL D H v v' → v.length = v'.length
 | _,_,.pur hp => rfl
 | _,_,.nil => rfl
 | _,_,.cons h1 h2 => by simp [LdL.len h2]
mutual
theorem Ld.ok {C:Ctx}{ι:Pl}{F:Nat → Prop}{D:List Nat}{H:Nat → Option (List AV)}{w:World}(g:HG C ι F H w):∀ {v v':AV},Ld D H v v' → ∀ {y:Value},Rd w (badOf C.X ι H) ι v y → Rd w C.X (fun _ => none) v' y
 | _,_,.pur hp,y,k => Rd.pur _ y hp (Rd.carry (⟨fun b o x h1 h2 => ⟨fun q => h1 (.inl q),h2⟩,fun _ _ h => h,fun _ => Nat.le_refl _⟩ : Carry w (badOf C.X ι H) ι w C.X ι) _ _ k)
 | _, _, .own (id := id) (m := m) h1 h2 h3, y, k => by
  have hlen := LdL.len h3
  simp only [Rd] at k ⊢
  rcases k with ⟨_,rfl,a,rfl⟩ | ⟨b,β,c,q1,rfl,q2,q3⟩
  ·exact ⟨a,0,rfl,.inl rfl⟩
  ·rcases g.obj id _ h2 with ⟨p1, _⟩ | ⟨b', β', arr, e', p1, p2, p3, p4, p5, p6⟩
   ·rw [p1] at q1;cases q1
   ·rw [p1] at q1; cases q1
    exact ⟨_,c,rfl,.inr ⟨b,β + 0,q2,rfl,.inr ⟨p5,LdL.okC g h3 p4⟩⟩⟩
 | _, _, .optr (id := id) h1 h2 h3, y, k => by
  simp only [Rd] at k ⊢
  obtain ⟨b,β,q1,rfl⟩ := k
  rcases g.obj id _ h2 with ⟨p1,_⟩ | ⟨b',β',arr,e',p1,p2,p3,p4,p5,p6⟩
  ·rw [p1] at q1;cases q1
  ·rw [p1] at q1; cases q1
   exact ⟨b,β + 0,rfl,.inr ⟨p5,LdL.okC g h3 p4⟩⟩
 | _, _, .imm (cs := cs) (cs' := cs') h3, y, k => by
  have hlen := LdL.len h3
  simp only [Rd] at k ⊢
  obtain ⟨a,c,rfl,k⟩ := k
  refine ⟨a,c,rfl,?_⟩
  rcases k with k | ⟨b,o,hn,rfl,k⟩
  ·exact .inl k
  ·refine .inr ⟨b, o, hn, rfl, ?_⟩
   rcases k with k | ⟨hb,k⟩
   ·subst k;exact .inl (List.eq_nil_of_length_eq_zero (by rw [← hlen]; rfl))
   ·exact .inr ⟨fun q => hb (.inl q),LdL.okC g h3 k⟩
 | _, _, .agg h3, y, k => by
  simp only [Rd] at k ⊢
  obtain ⟨l,h1,h2⟩ := k
  exact ⟨l,h1,LdL.okL g h3 h2⟩
theorem LdL.okC {C:Ctx}{ι:Pl}{F:Nat → Prop}{D:List Nat}{H:Nat → Option (List AV)}{w:World}(g:HG C ι F H w):∀ {v v':List AV},LdL D H v v' → ∀ {b o:Nat},RdC w (badOf C.X ι H) ι v b o → RdC w C.X (fun _ => none) v' b o
 | _,_,.pur hp,b,o,k => RdC.pur _ b o hp (RdC.carryB (⟨fun b o x h1 h2 => ⟨fun q => h1 (.inl q),h2⟩,fun _ _ h => h,fun _ => Nat.le_refl _⟩ : Carry w (badOf C.X ι H) ι w C.X ι) _ _ _ (fun o x hx => hx) k)
 | _,_,.nil,b,o,k => by simp only [RdC]
 | _, _, .cons h1 h2, b, o, k => by
  simp only [RdC] at k ⊢
  obtain ⟨⟨x,q1,q2,q3⟩,q4⟩ := k
  exact ⟨⟨x,q1,q2,Ld.ok g h1 q3⟩,LdL.okC g h2 q4⟩
theorem LdL.okL {C:Ctx}{ι:Pl}{F:Nat → Prop}{D:List Nat}{H:Nat → Option (List AV)}{w:World}(g:HG C ι F H w):∀ {v v':List AV},LdL D H v v' → ∀ {y:List Value},RdL w (badOf C.X ι H) ι v y → RdL w C.X (fun _ => none) v' y
 | _,_,.pur hp,y,k => RdL.pur _ y hp (RdL.carry (⟨fun b o x h1 h2 => ⟨fun q => h1 (.inl q),h2⟩,fun _ _ h => h,fun _ => Nat.le_refl _⟩ : Carry w (badOf C.X ι H) ι w C.X ι) _ _ k)
 | _,_,.nil,y,k => by simpa only [RdL] using k
 | _, _, .cons h1 h2, y, k => by
  simp only [RdL] at k ⊢
  obtain ⟨x,l',q0,q1,q2,q3⟩ := k
  exact ⟨x,l',q0,q1,Ld.ok g h1 q2,LdL.okL g h2 q3⟩
end
theorem LdL.okV {C:Ctx}{ι:Pl}{F:Nat → Prop}{D:List Nat}{H:Nat → Option (List AV)}{w:World}(g:HG C ι F H w):∀ {v v':List AV},LdL D H v v' → ∀ {y:List Value},RdV w (badOf C.X ι H) ι v y → RdV w C.X (fun _ => none) v' y
 | _,_,.pur hp,y,k => RdV.pur _ y hp (RdV.carry (⟨fun b o x h1 h2 => ⟨fun q => h1 (.inl q),h2⟩,fun _ _ h => h,fun _ => Nat.le_refl _⟩ : Carry w (badOf C.X ι H) ι w C.X ι) _ _ k)
 | _,_,.nil,y,k => by simpa only [RdV] using k
 | _, _, .cons h1 h2, y, k => by
  simp only [RdV] at k ⊢
  obtain ⟨x,l',q0,q2,q3⟩ := k
  exact ⟨x,l',q0,Ld.ok g h1 q2,LdL.okV g h2 q3⟩
theorem LdL.flt {D:List Nat}{H:Nat → Option (List AV)}{α:Type}{f f':α → List AV}:∀ {xs:List α},(∀ x ∈ xs,LdL D H (f x) (f' x)) → LdL D H (flat f xs) (flat f' xs)
 | [],_ => .nil
 | x :: xs, h => by
  have h1 := h x (List.mem_cons_self)
  have h2 := LdL.flt (f := f) (f' := f') (xs := xs) (fun y hy => h y (List.mem_cons_of_mem _ hy))
  have app : ∀ {a a' b b' : List AV}, LdL D H a a' → LdL D H b b' → LdL D H (a ++ b) (a' ++ b') := by
   intro a a' b b' ha hb
   induction a generalizing a' with
   | nil =>
    have := LdL.len ha
    cases a' with
    | nil => exact hb
    | cons _ _ => simp at this
   | cons c cs ih =>
    cases ha with
    | pur hp =>
     simp only [pursB,Bool.and_eq_true] at hp
     exact .cons (.pur hp.1) (ih (.pur hp.2))
    | cons q1 q2 => exact .cons q1 (ih q2)
  simp only [Go.AL.flat,List.flatMap_cons] at h2 ⊢
  exact app h1 h2
theorem LdL.rows {D:List Nat}{hs:List (Nat × Option (List AV))}{R:List (List Bool)}{b m w:Nat}(hF:FamR R R hs hs) (hD:∀ k,k < m → b + k + big ∈ D) (hm:b + m ≤ R.length) (hw:∀ k,k < m → R[b + k]!.length = w) :
  LdL D (lkH hs) (flat (cRw b w) (List.range m)) (flat cBB ((R.drop b).take m)) := by
 have e : flat cBB ((R.drop b).take m) = flat (fun k => [sl cB R[b + k]!]) (List.range m) := by
  have : (R.drop b).take m = (List.range m).map fun k => R[b + k]! := by
   refine List.ext_getElem (by simp;omega) fun i h1 h2 => ?_
   simp only [List.length_take,List.length_drop] at h1
   rw [List.getElem_take,List.getElem_drop,List.getElem_map,List.getElem_range,getB _ _ (by omega)]
  rw [this,Go.AL.flat,List.flatMap_map]; rfl
 rw [e]
 refine LdL.flt fun k hk => ?_
 rw [List.mem_range] at hk
 have hq := hw k hk
 show LdL D (lkH hs) [.own (b + k + big) 0 w 1] [.imm R[b + k]!.length (flat cB R[b + k]!)]
 rw [hq]
 exact .cons (.own (hD k hk) (hF.get (by omega)) (.pur (inferInstance : Pur (flat cB R[b + k]!)).pf)) .nil
section
theorem rx_lendG {k:FuncId}{args:Array Operand}{tys:Array TypeId}{avs avs2:List AV}{r:AV}(D:List Nat) [hc:CaT P k] (ha:evL (lk ts) args.toList = some avs) (hl:LdL D (lkH hs) avs avs2) (h:PC P k avs2 (fun x => x = r)) (hfr:r.free = true) (hN:Nat.blt d N = true)
  {md' : Md} [hmd : MdA md (rOs args.toList ++ D.map .inr) [.inl d] md'] (kk : RW P N all Q md' rest ⟨(d,r) :: ts,hs,n,z0⟩) : RW P N all Q md (⟨some d,.call ⟨.value (.func k),args,tys⟩,ty,pos,af,none⟩ :: rest) ⟨ts,hs,n,z0⟩ := by
 refine rw_step (rs := rOs args.toList ++ D.map .inr) (ws := []) (n' := n) (out := r) rfl (Nat.le_refl _) (.inl rfl) (fun C ι F T H a w K Q' hCN ag hF g gh hK => ?_) (fun x hx => by cases hx;exact ltb hN) (by rw [← hmd.pf] at kk;exact kk)
 simp only [Oper.wp,exec_call hc.pf,Oper.upon]
 have hl' : LdL D H avs avs2 := hl.agr fun id hid => (ag.r.h id (List.mem_map_of_mem hid)).symm
 have hv := hl'.okV gh (evL_ok g (ag.l.evL.trans ha))
 let C' : Ctx := { N := 0,w0 := w,W0 := fun _ => False,X := C.X,ι0 := fun _ => none,xlt := fun b hb => Nat.lt_of_lt_of_le (C.xlt b hb) gh.fr.size }
 have hbad : ∀ b,badOf C'.X (fun _ => none) (lkH []) b ↔ C.X b := fun b => ⟨fun h => (by rcases h with h | ⟨id,cs,β,h1,h2⟩ <;> first|exact h|cases h2),fun h => Or.inl h⟩
 have g' : HG C' (fun _ => none) (fun j => 0 ≤ j) (lkH []) w :=
  ⟨fun id cs h => by simp [lkH] at h,fun id id' cs cs' b β β' h => by simp [lkH] at h,Fr.refl _ _,fun _ _ h => h,fun _ _ => rfl⟩
 have hcar : Carry w C.X (fun _ => none) w (badOf C'.X (fun _ => none) (lkH [])) (fun _ => none) := ⟨fun b o x h1 h2 => ⟨fun h => h1 ((hbad b).1 h),h2⟩,fun _ _ h => h,fun _ => Nat.le_refl _⟩
 refine (h C' _ w _ rfl rfl g' (RdV.carry hcar _ _ hv)).mono ?_
 rintro e w' ⟨v,r',H',ι',rfl,⟨rfl,_⟩,h4,h5⟩
 obtain ⟨g2,c2⟩ := gh.ext h5.fr
 exact hK ι w' v (g.carry c2) (g2.less (fun _ _ h => h) (fun j hj => hj.1)).1 (Rd.free _ _ hfr h4)
theorem Le.frzAll {D:List Nat}{av out:AV}(hd:lk ts d = some av) (hl:Ld D (lkH hs) av out):Le ⟨ts,hs,n,z0⟩ ⟨[(d,out)],[],n,z0⟩:=by
 rintro C a w ⟨h0,ι,g,gh⟩
 obtain ⟨gh',car⟩ := gh.less (F' := Fn n z0) (H' := lkH []) (fun id c h => by simp [lkH] at h) (fun _ h => h)
 refine ⟨h0,ι,⟨g.df,g.sz,fun t av' ht => ?_⟩,gh'⟩
 have ht' : lk [(d,out)] t = some av' := ht
 rw [lk_c] at ht'
 split at ht'
 ·rename_i e
  subst e
  cases ht'
  obtain ⟨y,hy,hr⟩ := g.tm t _ hd
  refine ⟨y,hy,Rd.pur _ _ hl.purR (Rd.carry (⟨fun b o x h1 h2 => ⟨?_,h2⟩,fun _ _ h => h,fun _ => Nat.le_refl _⟩ : Carry w C.X (fun _ => none) w (badOf C.X ι (lkH [])) (fun _ => none)) _ _ (hl.ok gh hr))⟩
  rintro (h | ⟨id,cs,β,q1,q2⟩)
  ·exact h1 h
  ·simp [lkH] at q1
 ·simp [lk] at ht'
end
mutual
theorem RnV.bw {w:World}{ρ:Nat → Option Nat}{bad bad':Nat → Prop}{ι ι':Pl}(h:∀ i i',ρ i = some i' → ι i = ι' i') (hc:∀ b,bad b → bad' b):∀ {v v':AV},RnV ρ v v' → ∀ {y:Value},Rd w bad' ι' v' y → Rd w bad ι v y
 | _,_,.pur hp,y,k => Rd.pur _ y hp (Rd.carry (⟨fun b o x h1 h2 => ⟨fun q => h1 (hc b q),h2⟩,fun _ _ h => h,fun _ => Nat.le_refl _⟩ : Carry w bad' ι' w bad ι') _ _ k)
 | _,_,.own hi,y,k => by simp only [Rd,h _ _ hi] at k ⊢; exact k
 | _,_,.optr hi,y,k => by simp only [Rd,h _ _ hi] at k ⊢; exact k
 | _, _, .imm (cs := cs) (cs' := cs') hl, y, k => by
  have hlen := RnL.len hl
  simp only [Rd] at k ⊢
  obtain ⟨a,c,rfl,k⟩ := k
  refine ⟨a,c,rfl,?_⟩
  rcases k with k | ⟨b,o,hn,rfl,k⟩
  ·exact .inl k
  ·refine .inr ⟨b, o, hn, rfl, ?_⟩
   rcases k with k | ⟨hb,k⟩
   ·subst k;exact .inl (List.eq_nil_of_length_eq_zero (by rw [hlen]; rfl))
   ·exact .inr ⟨fun q => hb (hc b q),RnL.bwC h hc hl k⟩
 | _, _, .agg hl, y, k => by
  simp only [Rd] at k ⊢
  obtain ⟨l,h1,h2⟩ := k
  exact ⟨l,h1,RnL.bwL h hc hl h2⟩
 | _, _, .tup hl, y, k => by
  simp only [Rd] at k ⊢
  obtain ⟨l,h1,h2⟩ := k
  exact ⟨l,h1,RnL.bwV h hc hl h2⟩
 | _, _, .clos h1 h2, y, k => by
  simp only [Rd] at k ⊢
  obtain ⟨lf,lc,q1,q2,q3⟩ := k
  exact ⟨lf,lc,q1,RnL.bwV h hc h1 q2,RnL.bwV h hc h2 q3⟩
theorem RnL.bwL {w:World}{ρ:Nat → Option Nat}{bad bad':Nat → Prop}{ι ι':Pl}(h:∀ i i',ρ i = some i' → ι i = ι' i') (hc:∀ b,bad b → bad' b):∀ {v v':List AV},RnL ρ v v' → ∀ {y:List Value},RdL w bad' ι' v' y → RdL w bad ι v y
 | _,_,.pur hp,y,k => RdL.pur _ y hp (RdL.carry (⟨fun b o x h1 h2 => ⟨fun q => h1 (hc b q),h2⟩,fun _ _ h => h,fun _ => Nat.le_refl _⟩ : Carry w bad' ι' w bad ι') _ _ k)
 | _,_,.nil,y,k => by simpa only [RdL] using k
 | _, _, .cons h1 h2, y, k => by
  simp only [RdL] at k ⊢
  obtain ⟨x,l',q0,q1,q2,q3⟩ := k
  exact ⟨x,l',q0,q1,RnV.bw h hc h1 q2,RnL.bwL h hc h2 q3⟩
theorem RnL.bwV {w:World}{ρ:Nat → Option Nat}{bad bad':Nat → Prop}{ι ι':Pl}(h:∀ i i',ρ i = some i' → ι i = ι' i') (hc:∀ b,bad b → bad' b):∀ {v v':List AV},RnL ρ v v' → ∀ {y:List Value},RdV w bad' ι' v' y → RdV w bad ι v y
 | _,_,.pur hp,y,k => RdV.pur _ y hp (RdV.carry (⟨fun b o x h1 h2 => ⟨fun q => h1 (hc b q),h2⟩,fun _ _ h => h,fun _ => Nat.le_refl _⟩ : Carry w bad' ι' w bad ι') _ _ k)
 | _,_,.nil,y,k => by simpa only [RdV] using k
 | _, _, .cons h1 h2, y, k => by
  simp only [RdV] at k ⊢
  obtain ⟨x,l',q0,q2,q3⟩ := k
  exact ⟨x,l',q0,RnV.bw h hc h1 q2,RnL.bwV h hc h2 q3⟩
theorem RnL.bwC {w:World}{ρ:Nat → Option Nat}{bad bad':Nat → Prop}{ι ι':Pl}(h:∀ i i',ρ i = some i' → ι i = ι' i') (hc:∀ b,bad b → bad' b):∀ {v v':List AV},RnL ρ v v' → ∀ {b o:Nat},RdC w bad' ι' v' b o → RdC w bad ι v b o
 | _,_,.pur hp,b,o,k => RdC.pur _ b o hp (RdC.carryB (⟨fun b o x h1 h2 => ⟨fun q => h1 (hc b q),h2⟩,fun _ _ h => h,fun _ => Nat.le_refl _⟩ : Carry w bad' ι' w bad ι') _ _ _ (fun o x hx => hx) k)
 | _,_,.nil,b,o,k => by simp only [RdC]
 | _, _, .cons h1 h2, b, o, k => by
  simp only [RdC] at k ⊢
  obtain ⟨⟨x,q1,q2,q3⟩,q4⟩ := k
  exact ⟨⟨x,q1,q2,RnV.bw h hc h1 q3⟩,RnL.bwC h hc h2 q4⟩
end
theorem RnL.app {ρ:Nat → Option Nat}:∀ {a a' b b':List AV},RnL ρ a a' → RnL ρ b b' → RnL ρ (a ++ b) (a' ++ b')
 | [], a', b, b', ha, hb => by
  have := ha.len
  cases a' with
  | nil => exact hb
  | cons _ _ => simp at this
 | c :: cs, _, b, b', .pur hp, hb => by
  simp only [pursB,Bool.and_eq_true] at hp
  exact .cons (.pur hp.1) (RnL.app (.pur hp.2) hb)
 | c :: cs,_,b,b',.cons h1 h2,hb => .cons h1 (RnL.app h2 hb)
theorem RnL.flt {ρ:Nat → Option Nat}{α:Type}{f f':α → List AV}:∀ {xs:List α},(∀ x ∈ xs,RnL ρ (f x) (f' x)) → RnL ρ (flat f xs) (flat f' xs)
 | [],_ => .nil
 | x :: xs, h => by
  have h1 := h x (List.mem_cons_self)
  have h2 := RnL.flt (f := f) (f' := f') (xs := xs) (fun y hy => h y (List.mem_cons_of_mem _ hy))
  simp only [flat,List.flatMap_cons] at h2 ⊢
  exact h1.app h2
theorem Le.renG (ρ:Nat → Option Nat){ts ts':List (Nat × AV)}{hs hs':List (Nat × Option (List AV))}{n n':Nat}{lo lo':Lo}(hlo:lo'.lo = lo.lo) (hfb:lo.fb ≤ lo'.fb)
  (hid : ∀ id,id < lo.lo ∨ (big ≤ id ∧ id < lo.fb) → ρ id = some id) (hinj : ∀ a b c,ρ a = some c → ρ b = some c → a = b) (hfr : ∀ id,Fn n' lo' id → ρ id = none)
  (h1 : ∀ t v,lk ts' t = some v → ∃ v0,lk ts t = some v0 ∧ RnV ρ v v0) (h2 : ∀ id cs,lkH hs' id = some cs → ∃ j cs0,ρ id = some j ∧ lkH hs j = some cs0 ∧ RnL ρ cs cs0) :
  Le ⟨ts,hs,n,lo⟩ ⟨ts',hs',n',lo'⟩ := by
 rintro C a w ⟨h0,ι,g,gh⟩
 let ι' : Pl := fun id => match ρ id with|some j => ι j|none => none
 have hto : ∀ id j,ρ id = some j → ι' id = ι j := fun id j h => by simp only [ι',h]
 have hbad : ∀ b, badOf C.X ι' (lkH hs') b → badOf C.X ι (lkH hs) b := by
  rintro b (h | ⟨id,cs,β,q1,q2⟩)
  ·exact .inl h
  ·obtain ⟨j, cs0, q3, q4, _⟩ := h2 id cs q1
   rw [hto _ _ q3] at q2
   exact .inr ⟨j,cs0,β,q4,q2⟩
 refine ⟨fun id h => ?_,ι',⟨g.df,g.sz,fun t v ht => ?_⟩,⟨fun id cs h => ?_,fun id id' cs cs' b β β' q1 q2 q3 q4 => ?_,gh.fr,fun id p hp => ?_,fun id hid' => ?_⟩⟩
 ·have h' : lo.lo ≤ id := by rw [← hlo]; exact h
  rcases h0 id h' with q|q
  ·exact .inl ⟨q.1,Nat.lt_of_lt_of_le q.2 hfb⟩
  ·exact .inr q
 ·obtain ⟨v0, q1, q2⟩ := h1 t v ht
  obtain ⟨y,q3,q4⟩ := g.tm t v0 q1
  exact ⟨y,q3,RnV.bw hto hbad q2 q4⟩
 ·obtain ⟨j, cs0, q3, q4, q5⟩ := h2 id cs h
  rcases gh.obj j cs0 q4 with ⟨p1,p2⟩ | ⟨b,β,arr,e,p1,p2,p3,p4,p5,p6⟩
  ·refine .inl ⟨by rw [hto _ _ q3]; exact p1, ?_⟩
   subst p2;exact List.eq_nil_of_length_eq_zero (by rw [q5.len]; rfl)
  ·exact .inr ⟨b,β,arr,e,by rw [hto _ _ q3]; exact p1,p2,by rw [q5.len]; exact p3,RnL.bwC hto hbad q5 p4,p5,p6⟩
 ·obtain ⟨j, c1, r1, r2, _⟩ := h2 id cs q1
  obtain ⟨j',c2,r3,r4,_⟩ := h2 id' cs' q2
  rw [hto _ _ r1] at q3
  rw [hto _ _ r3] at q4
  have := gh.sep _ _ _ _ _ _ _ r2 r4 q3 q4
  subst this
  exact hinj _ _ _ r1 r3
 ·have : ρ id = some id := by
   refine hid id ?_
   rcases Nat.lt_or_ge id lo.lo with q|q
   ·exact .inl q
   ·rcases h0 id q with q1 | q1
    ·exact .inr q1
    ·rw [q1] at hp;cases hp
  rw [hto _ _ this]; exact gh.ex id p hp
 ·have := hfr id hid'
  simp only [ι',this]
def rhoF (m : List (Nat × Nat)) (lo : Lo) (pn : Option Nat) (id : Nat) : Option Nat :=
 if id < lo.lo then some id else if big ≤ id then (if id < lo.fb then some id else if id = lo.fb then pn else none) else lkI m id
theorem rhoF_big {m:List (Nat × Nat)}{lo:Lo}{pn:Option Nat}{id:Nat}(h1:big ≤ id) (h2:id < lo.fb):rhoF m lo pn id = some id:=by
 unfold rhoF;split
 ·rfl
 ·simp [h1,h2]
def rnT (ρ : Nat → Option Nat) (l : List (Nat × AV)) : List (Nat × AV) → Prop
 | [] => True
 | (t,v) :: l' => (∃ v0,lk l t = some v0 ∧ RnV ρ v v0) ∧ rnT ρ l l'
def rnHs (ρ : Nat → Option Nat) (l : List (Nat × Option (List AV))) : List (Nat × Option (List AV)) → Prop
 | [] => True
 | (t,none) :: l' => rnHs ρ l l'
 | (t,some cs) :: l' => (∃ j cs0,ρ t = some j ∧ lkH l j = some cs0 ∧ RnL ρ cs cs0) ∧ rnHs ρ l l'
theorem rnT_ok {ρ:Nat → Option Nat}{l:List (Nat × AV)}:∀ {l':List (Nat × AV)},rnT ρ l l' → ∀ t v,lk l' t = some v → ∃ v0,lk l t = some v0 ∧ RnV ρ v v0
 | [],_,t,v,h => by simp [lk] at h
 | (u, x) :: l', hr, t, v, h => by
  simp only [rnT] at hr
  simp only [lk_c] at h
  split at h
  ·rename_i e;subst e;cases h;exact hr.1
  ·exact rnT_ok hr.2 t v h
theorem lkH_app {a b:List (Nat × Option (List AV))}{u:Nat}{c:List AV}:lkH (a ++ b) u = some c → lkH a u = some c ∨ lkH b u = some c:=by
 induction a with
 | nil => exact fun h => .inr h
 | cons x a ih =>
  obtain ⟨t,v⟩ := x
  rw [List.cons_append,lkH_c,lkH_c]
  split
  ·exact fun h => .inl h
  ·exact ih
theorem lkH_appL {a b:List (Nat × Option (List AV))}{u:Nat}{c:List AV}(h:lkH a u = some c):lkH (a ++ b) u = some c:=by
 induction a with
 | nil => simp [lkH] at h
 | cons x a ih =>
  obtain ⟨t,v⟩ := x
  rw [List.cons_append]
  rw [lkH_c] at h ⊢
  split
  ·rename_i e;rw [if_pos e] at h;exact h
  ·rename_i e;rw [if_neg e] at h;exact ih h
theorem lkH_appR {a b:List (Nat × Option (List AV))}{u:Nat}(h:keysLt u a = true):lkH (a ++ b) u = lkH b u:=by
 induction a with
 | nil => rfl
 | cons x a ih =>
  obtain ⟨t,v⟩ := x
  simp only [keysLt,Bool.and_eq_true] at h
  rw [List.cons_append,lkH_c,if_neg (by have := ltb h.1;omega)]
  exact ih h.2
theorem keysLt_mono {n m:Nat}(h:n ≤ m):∀ {a:List (Nat × Option (List AV))},keysLt n a = true → keysLt m a = true
 | [],_ => rfl
 | (t, v) :: a, k => by
  simp only [keysLt,Bool.and_eq_true] at k ⊢
  exact ⟨by have := ltb k.1;simp [Nat.blt]; omega,keysLt_mono h k.2⟩
theorem rnHs_ok {ρ:Nat → Option Nat}{l:List (Nat × Option (List AV))}:∀ {l':List (Nat × Option (List AV))},rnHs ρ l l' → ∀ t cs,lkH l' t = some cs →
  ∃ j cs0,ρ t = some j ∧ lkH l j = some cs0 ∧ RnL ρ cs cs0
 | [],_,t,v,h => by simp [lkH] at h
 | (u, none) :: l', hr, t, v, h => by
  simp only [rnHs] at hr
  simp only [lkH_c] at h
  split at h
  ·cases h
  ·exact rnHs_ok hr t v h
 | (u, some x) :: l', hr, t, v, h => by
  simp only [rnHs] at hr
  simp only [lkH_c] at h
  split at h
  ·rename_i e;subst e;cases h;exact hr.1
  ·exact rnHs_ok hr.2 t v h
theorem rhoF_cs {m:List (Nat × Nat)}{lo:Lo}{pn:Option Nat}{n':Nat}(hm:okI lo.lo n' m = true){a c:Nat}(h:rhoF m lo pn a = some c) :
  (a < lo.lo ∧ c = a) ∨ (lo.lo ≤ a ∧ big ≤ a ∧ a < lo.fb ∧ c = a) ∨ (lo.lo ≤ a ∧ big ≤ a ∧ a = lo.fb ∧ pn = some c) ∨ (lo.lo ≤ a ∧ a < big ∧ a < n' ∧ lo.lo ≤ c ∧ c < big ∧ lkI m a = some c) := by
 unfold rhoF at h
 split at h
 ·cases h;exact .inl ⟨by assumption,rfl⟩
 ·split at h
  ·split at h
   ·cases h;exact .inr (.inl ⟨by omega,by assumption,by assumption,rfl⟩)
   ·split at h
    ·exact .inr (.inr (.inl ⟨by omega,by assumption,by assumption,h⟩))
    ·cases h
  ·have := okI_mem hm _ _ h
   exact .inr (.inr (.inr ⟨by omega,by omega,by omega,by omega,by omega,h⟩))
theorem Le.renF (m:List (Nat × Nat)) (pn:Option Nat){ts ts':List (Nat × AV)}{hs hs':List (Nat × Option (List AV))}{n n':Nat}{lo lo':Lo}(hm:okI lo.lo n' m = true) (hn:lo.lo ≤ n') (hlo:lo'.lo = lo.lo)
  (hfb : lo'.fb = lo.fb + (if pn.isSome then 1 else 0)) (hp : ∀ b,pn = some b → lo.lo ≤ b ∧ b < big ∧ ∀ a,lkI m a ≠ some b)
  (h1 : ∀ t v,lk ts' t = some v → ∃ v0,lk ts t = some v0 ∧ RnV (rhoF m lo pn) v v0) (h2 : ∀ id cs,lkH hs' id = some cs → ∃ j cs0,rhoF m lo pn id = some j ∧ lkH hs j = some cs0 ∧ RnL (rhoF m lo pn) cs cs0) :
  Le ⟨ts,hs,n,lo⟩ ⟨ts',hs',n',lo'⟩ := by
 refine Le.renG (rhoF m lo pn) hlo (by rw [hfb]; omega) (fun id h => ?_) (fun a b c ha hb => ?_) (fun id h => ?_) h1 h2
 ·rcases h with h | h
  ·unfold rhoF;rw [if_pos h]
  ·exact rhoF_big h.1 h.2
 ·rcases rhoF_cs hm ha with a1 | a1 | a1 | a1 <;> rcases rhoF_cs hm hb with b1 | b1 | b1 | b1
  all_goals try omega
  ·have := hp c b1.2.2.2;omega
  ·have := hp c b1.2.2.2;omega
  ·have := hp c a1.2.2.2;omega
  ·have := hp c a1.2.2.2;omega
  ·exact absurd b1.2.2.2.2.2 ((hp c a1.2.2.2).2.2 b)
  ·exact absurd a1.2.2.2.2.2 ((hp c b1.2.2.2).2.2 a)
  ·exact okI_inj hm _ _ _ a1.2.2.2.2.2 b1.2.2.2.2.2
 ·cases hc : rhoF m lo pn id with
  | none => rfl
  | some c =>
   have h3 : n' ≤ id := h.1
   have h4 : id < big ∨ lo'.fb ≤ id := h.2
   rcases rhoF_cs hm hc with a1|a1|a1|a1
   ·omega
   ·omega
   ·rw [a1.2.2.2] at hfb;simp at hfb;omega
   ·omega
theorem Le.renF0 (m:List (Nat × Nat)){R:List (List Bool)}{ts ts':List (Nat × AV)}{hs lits:List (Nat × Option (List AV))}{n n':Nat}{lo:Lo}{l0:Nat}(hF:FamR R R hs hs) (hz:lo = ⟨l0,big + R.length⟩) (hm:okI l0 n' m = true) (hn:l0 ≤ n')
  (h1 : rnT (rhoF m lo none) ts ts') (h2 : rnHs (rhoF m lo none) hs lits) : Le ⟨ts,hs,n,lo⟩ ⟨ts',lits ++ famB R,n',⟨l0,big + R.length⟩⟩ := by
 subst hz
 refine Le.renF m none hm hn rfl rfl (fun b h => by cases h) (rnT_ok h1) (fun id cs h => ?_)
 rcases lkH_app h with h|h
 ·exact rnHs_ok h2 id cs h
 ·obtain ⟨k, hk, rfl, rfl⟩ := lkH_fam' h
  exact ⟨_,_,rhoF_big (by omega) (by show k + big < big + R.length;omega),hF.get hk,.pur (inferInstance : Pur (flat cB R[k]!)).pf⟩
theorem Le.renF1 (m:List (Nat × Nat)) (b:Nat){r:List Bool}{R R':List (List Bool)}{ts ts':List (Nat × AV)}{hs lits:List (Nat × Option (List AV))}{n n':Nat}{lo:Lo}{l0:Nat}(hF:FamR R R hs hs) (hz:lo = ⟨l0,big + R.length⟩) (hm:okI l0 n' m = true) (hn:l0 ≤ n')
  (hlb : l0 ≤ big) (hb : l0 ≤ b ∧ b < big ∧ (m.all fun p => !Nat.beq p.2 b) = true) (hr : lkH hs b = some (flat cB r)) (hR : R' = R ++ [r])
  (h1 : rnT (rhoF m lo (some b)) ts ts') (h2 : rnHs (rhoF m lo (some b)) hs lits) : Le ⟨ts,hs,n,lo⟩ ⟨ts',lits ++ famB R',n',⟨l0,big + R'.length⟩⟩ := by
 subst hz hR
 refine Le.renF m (some b) hm hn rfl (by show big + (R ++ [r]).length = big + R.length + 1;simp [Nat.add_assoc]) (fun b' h => ?_) (rnT_ok h1) (fun id cs h => ?_)
 ·cases h
  refine ⟨hb.1,hb.2.1,fun a ha => ?_⟩
  have := lkI_mem ha
  have h3 := hb.2.2
  rw [List.all_eq_true] at h3
  have := h3 _ this
  simp at this
 ·rcases lkH_app h with h | h
  ·exact rnHs_ok h2 id cs h
  ·obtain ⟨k, hk, rfl, rfl⟩ := lkH_fam' h
   rw [List.length_append,List.length_singleton] at hk
   rcases Nat.lt_or_ge k R.length with hk2|hk2
   ·have e : (R ++ [r])[k]! = R[k]! := by rw [getB _ _ (by simp; omega), getB _ _ hk2, List.getElem_append_left hk2]
    exact ⟨_,_,rhoF_big (by omega) (by show k + big < big + R.length;omega),hF.get hk2,by rw [e]; exact .pur (inferInstance : Pur (flat cB R[k]!)).pf⟩
   ·have e : k = R.length := by omega
    subst e
    have e2 : (R ++ [r])[R.length]! = r := by rw [getB _ _ (by simp)]; simp
    refine ⟨b,flat cB r,?_,hr,?_⟩
    ·unfold rhoF
     rw [if_neg (by show ¬ R.length + big < l0;omega),if_pos (by omega),if_neg (by show ¬ R.length + big < big + R.length;omega),if_pos (by show R.length + big = big + R.length;omega)]
    ·rw [e2]; exact .pur (inferInstance : Pur (flat cB r)).pf
section
variable {P : Program} {N : Nat} {Q : Exit → AS → Prop}
theorem Le.litF {ts ts':List (Nat × AV)}{hs lits:List (Nat × Option (List AV))}{n n':Nat}{z0 z1:Lo}{R:List (List Bool)}(h1:subT ts ts') (h2:subH hs lits) (h3:n ≤ n') (hF:FamR R R hs hs) (hz:z0 = z1) :
  Le ⟨ts,hs,n,z0⟩ ⟨ts',lits ++ famB R,n',z1⟩ := by
 refine Le.of (subT_ok h1) (fun i c h => ?_) h3 hz
 rcases lkH_app h with h|h
 ·exact subH_ok h2 i c h
 ·obtain ⟨k, hk, rfl, rfl⟩ := lkH_fam' h
  exact hF.get hk
theorem aw_loopF {σ:Type}{c:Code}{ts:List (Nat × AV)}{hs:List (Nat × Option (List AV))}{n:Nat}{z0:Lo}(l0:Nat) (Rf:σ → List (List Bool)) (ks:List Nat) (kt:List (Nat × AV)) (js:List Nat) (kh:List (Nat × Option (List AV)))
  (ot : σ → List (Nat × AV)) (oh : σ → List (Nat × Option (List AV))) (p : σ → Prop) (μ : σ → Nat) (i0 : σ) (h0 : p i0) (hk : selT ks ts = kt) (hj : selH js hs = kh)
  (h1 : subT ts (ot i0)) (h2 : subH hs (oh i0)) (hF : FamR (Rf i0) (Rf i0) hs hs) (hz : z0 = ⟨l0,big + (Rf i0).length⟩)
  (round : ∀ i,p i → AW P N c (thenQ (fun s' => ∃ j,p j ∧ μ j < μ i ∧ Le s' ⟨ot j ++ kt,(oh j ++ kh) ++ famB (Rf j),n,⟨l0,big + (Rf j).length⟩⟩) Q) ⟨ot i ++ kt,(oh i ++ kh) ++ famB (Rf i),n,⟨l0,big + (Rf i).length⟩⟩) :
  AW P N (.loop c) Q ⟨ts,hs,n,z0⟩ := by
 subst hk hj
 exact aw_loop p (fun i => ⟨ot i ++ selT ks ts,(oh i ++ selH js hs) ++ famB (Rf i),n,⟨l0,big + (Rf i).length⟩⟩) μ ⟨i0,h0,Le.litF (subT_append h1 (selT_sub ks)) (subH_append h2 (selH_sub js)) (Nat.le_refl _) hF hz⟩ round
end
def GCalls (P : Program) (k : FuncId) (args : List AV) (H0 : Nat → Option (List AV)) (F0 : Nat → Prop) (Q : AV → (Nat → Option (List AV)) → Prop) : Prop :=
 ∀ (C : Ctx) (ι : Pl) (w : World) (vals : List Value), C.w0 = w → C.ι0 = ι → HG C ι F0 H0 w → RdV w (badOf C.X ι H0) ι args vals →
  Calls P k vals.toArray w (fun e w' => ∃ v r H' ι',e = .returned v ∧ Q r H' ∧ Rd w' (badOf C.X ι' H') ι' r v ∧ HG C ι' (fun _ => False) H' w')
theorem gcalls_of_aw {P:Program}{k:FuncId}{fn:Func}{c:Code}{args:List AV}{H0:List (Nat × Option (List AV))}{n fb:Nat}{Q:AV → (Nat → Option (List AV)) → Prop}(hf:P.funcs[k]? = some fn) (hb:fn.body = some c)
  (hN : args.length ≤ fn.ntmps) (h : AW P fn.ntmps c (retQ P fn.results Q) ⟨argTs 0 args,H0,n,⟨n,fb⟩⟩) : GCalls P k args (lkH H0) (Fn n ⟨n,fb⟩) Q := by
 intro C ι w vals hw hι g hr
 refine calls_of_wp hf hb ?_
 let C' : Ctx := { C with N := fn.ntmps }
 have hlen := RdV.length hr
 have g' : HG C' ι (Fn n ⟨n,fb⟩) (lkH H0) w := ⟨g.obj,g.sep,g.fr,g.ex,g.fresh⟩
 have gt : TG C' ι (lk (argTs 0 args)) (lkH H0) { tmps := vals.toArray ++ Array.replicate (fn.ntmps - vals.toArray.size) undef, defers := [] } w := by
  refine ⟨rfl,by simp [C',hlen]; omega,fun t av ht => ?_⟩
  obtain ⟨y,_,h1,h2⟩ := lk_argTs hr ht
  refine ⟨y,?_,h2⟩
  have hlt : t < vals.length := by
   rcases Nat.lt_or_ge t vals.length with q|q
   ·exact q
   ·rw [List.getElem?_eq_none (by simpa using q)] at h1;cases h1
  rw [Array.getElem?_append_left (by simpa using hlt)]
  simpa using h1
 refine wp_mono (h C' _ w rfl ⟨fun id hid => ?_,ι,gt,g'⟩) ?_
 ·by_cases q : big ≤ id ∧ id < fb
  ·exact .inl q
  ·refine .inr ?_
   show C.ι0 id = none
   rw [hι]
   exact g.fresh id ⟨hid,by show id < big ∨ fb ≤ id;omega⟩
 rintro e a' w' ⟨s1,⟨he,s',l,hle,hres,hQ⟩,hg⟩
 obtain ⟨_,ι',g1,g2⟩ := hle C' a' w' hg
 obtain ⟨ys,h1,h2⟩ := resL_ok (P := P) g1 g2 hres
 have hres' : (results fn a'.tmps).run P w' = .ok (if h : ys.toArray.size = 1 then ys.toArray[0] else .tuple ys.toArray) w' := by
  have hr1 : results fn a'.tmps = (do let vs ← fn.results.mapM (resS a'); pure (if h : vs.size = 1 then vs[0] else .tuple vs)) := by
   unfold results
   congr 1
  rw [hr1,Array.mapM_eq_mapM_toList,Sem.run_bind,Sem.run_map,h1]
  simp only [Result.andThen_ok,Sem.run_pure]
 have g3 : HG C ι' (fun _ => False) (lkH s'.hs) w' := ⟨g2.obj,g2.sep,g2.fr,g2.ex,fun _ h => h.elim⟩
 rcases he with rfl|rfl
 ·exact ⟨g1.df,_,hres',_,_,_,ι',rfl,hQ,oneOf_ok h2,g3⟩
 ·exact ⟨g1.df,_,hres',_,_,_,ι',rfl,hQ,oneOf_ok h2,g3⟩
def rhoG (mpF fr : Nat → Option Nat) (j : Nat) : Option Nat := match mpF j with | some i => some i | none => fr j
theorem call_gen {P:Program}{k:FuncId}{args args':List AV}{H0 hh:Nat → Option (List AV)}{F0:Nat → Prop}{mpF fr fi:Nat → Option Nat}{r rr':AV}{H2:Nat → Option (List AV)}
  (h : GCalls P k args H0 F0 (fun r' H' => r' = r ∧ ∀ j cs,hh j = some cs → H' j = some cs)) (hmi : ∀ j j' i,mpF j = some i → mpF j' = some i → j = j') (hfi : ∀ i j,fi i = some j ↔ fr j = some i) (hmf : ∀ j i,fr j = some i → mpF j = none) (hF0 : ∀ j,F0 j → mpF j = none)
  {C : Ctx} {ι : Pl} {F : Nat → Prop} {H : Nat → Option (List AV)} {w : World} (g : HG C ι F H w)
  (hH0 : ∀ j i,mpF j = some i → ∃ cs cs',H0 j = some cs ∧ H i = some cs' ∧ RnL mpF cs cs') (hH1 : ∀ j cs,H0 j = some cs → ∃ i,mpF j = some i)
  (ha : RnL mpF args args') (hF : ∀ j i,fr j = some i → F i) (hr : RnV (rhoG mpF fr) r rr')
  (hw : ∀ i cs',H2 i = some cs' → (∃ j cs,rhoG mpF fr j = some i ∧ hh j = some cs ∧ RnL (rhoG mpF fr) cs cs') ∨ (H i = some cs' ∧ ∀ j,mpF j ≠ some i))
  {vals : List Value} (hv : RdV w (badOf C.X ι H) ι args' vals) :
  Calls P k vals.toArray w (fun e w' => ∃ v ι',e = .returned v ∧ HG C ι' (fun j => F j ∧ fi j = none) H2 w' ∧ Carry w (badOf C.X ι H) ι w' (badOf C.X ι' H2) ι' ∧ Rd w' (badOf C.X ι' H2) ι' rr' v) := by
 let W0 : Nat → Prop := fun b => ∃ (j i β : Nat),mpF j = some i ∧ ι i = some (some (b,β))
 let Xc : Nat → Prop := fun b => badOf C.X ι H b ∧ ¬ W0 b
 let ιc : Pl := fun j => match mpF j with|some i => ι i|none => none
 let C' : Ctx := { N := 0,w0 := w,W0 := W0,X := Xc,ι0 := ιc,xlt := fun b hb => g.bad_lt b hb.1 }
 have hW0 : ∀ b, W0 b → ¬ C.X b ∧ (C.W0 b ∨ C.w0.heap.size ≤ b) ∧ badOf C.X ι H b := by
  rintro b ⟨j,i,β,h1,h2⟩
  obtain ⟨cs,cs',q1,q2,q3⟩ := hH0 j i h1
  rcases g.obj i cs' q2 with ⟨q,_⟩ | ⟨b',β',arr,e,q,q4,q5,q6,q7,q8⟩
  ·rw [q] at h2;cases h2
  ·rw [q] at h2;cases h2;exact ⟨q7,q8,.inr ⟨i,cs',_,q2,q⟩⟩
 have hnone : ∀ i j,fi i = some j → ι i = none := fun i j h1 => g.fresh i (hF j i ((hfi i j).1 h1))
 have hιc : ∀ j i,mpF j = some i → ιc j = ι i := fun j i h => by simp only [ιc,h]
 have hbadc : ∀ b, badOf Xc ιc H0 b → badOf C.X ι H b := by
  rintro b (⟨h1,_⟩ | ⟨j,cs,β,h1,h2⟩)
  ·exact h1
  ·obtain ⟨i, hi⟩ := hH1 j cs h1
   rw [hιc j i hi] at h2
   exact (hW0 b ⟨j,_,β,hi,h2⟩).2.2
 have hbadc2 : ∀ b, badOf C.X ι H b → badOf Xc ιc H0 b := by
  intro b hb
  by_cases hw0 : W0 b
  ·obtain ⟨j, i, β, h1, h2⟩ := hw0
   obtain ⟨cs,cs',q1,q2,q3⟩ := hH0 j i h1
   exact .inr ⟨j,cs,β,q1,by rw [hιc j i h1]; exact h2⟩
  ·exact .inl ⟨hb,hw0⟩
 have gc : HG C' ιc F0 H0 w := by
  refine ⟨fun j cs hj => ?_,fun j j' cs cs' b β β' h1 h2 h3 h4 => ?_,Fr.refl _ _,fun _ _ h => h,fun j hj => ?_⟩
  ·obtain ⟨i, hi⟩ := hH1 j cs hj
   obtain ⟨cs1,cs',q1,q2,q3⟩ := hH0 j _ hi
   rw [hj] at q1;cases q1
   rcases g.obj _ cs' q2 with ⟨q4,q5⟩ | ⟨b',β',arr,e,q4,q5,q6,q7,q8,q9⟩
   ·refine .inl ⟨by rw [hιc j i hi]; exact q4, ?_⟩
    subst q5
    exact List.eq_nil_of_length_eq_zero (by rw [q3.len]; rfl)
   ·have hw0 : W0 b' := ⟨j, _, β', hi, q4⟩
    exact .inr ⟨b',β',arr,e,by rw [hιc j i hi]; exact q4,q5,by rw [q3.len]; exact q6,RnL.bwC hιc hbadc q3 q7,fun hx => hx.2 hw0,.inl hw0⟩
  ·obtain ⟨i, hi⟩ := hH1 j cs h1
   obtain ⟨i',hi'⟩ := hH1 j' cs' h2
   obtain ⟨_,c1,_,q2,_⟩ := hH0 j _ hi
   obtain ⟨_,c2,_,q2',_⟩ := hH0 j' _ hi'
   rw [hιc j i hi] at h3
   rw [hιc j' i' hi'] at h4
   have := g.sep _ _ _ _ _ _ _ q2 q2' h3 h4
   exact hmi j j' i hi (by rw [hi',this])
  ·show ιc j = none
   simp only [ιc,hF0 j hj]
 have hvc : RdV w (badOf C'.X ιc H0) ιc args vals := RnL.bwV hιc hbadc ha hv
 refine (h C' ιc w vals rfl rfl gc hvc).mono ?_
 rintro e w' ⟨v,r0,H',ιr,rfl,⟨rfl,hkeep⟩,hrd,gr⟩
 let ι' : Pl := fun i => match fi i with|some j => ιr j|none => ι i
 have hmpf : ∀ (j i : Nat), mpF j = some i → fi i = none := by
  intro j i hj
  cases hq : fi i with
  | none => rfl
  | some j2 =>
   obtain ⟨cs,cs',q1,q2,q3⟩ := hH0 j i hj
   rcases g.obj i cs' q2 with ⟨q,_⟩ | ⟨_,_,_,_,q,_⟩ <;> (rw [hnone i _ hq] at q;cases q)
 have hιr : ∀ (j i : Nat), mpF j = some i → ιr j = ι i := by
  intro j i hj
  obtain ⟨cs,cs',q1,q2,q3⟩ := hH0 j i hj
  have : ∃ q, ι i = some q := by
   rcases g.obj i cs' q2 with ⟨q,_⟩ | ⟨_,_,_,_,q,_⟩
   ·exact ⟨_,q⟩
   ·exact ⟨_,q⟩
  obtain ⟨q,hq⟩ := this
  rw [hq]
  exact gr.ex j q (by show ιc j = some q;rw [hιc j i hj]; exact hq)
 have hρ1 : ∀ j i, rhoG mpF fr j = some i → (mpF j = some i) ∨ (mpF j = none ∧ fr j = some i) := by
  intro j i hj
  unfold rhoG at hj
  split at hj
  ·cases hj;exact .inl (by assumption)
  ·exact .inr ⟨by assumption,hj⟩
 have hto : ∀ j i, rhoG mpF fr j = some i → ιr j = ι' i := by
  intro j i hj
  rcases hρ1 j i hj with h2 | ⟨h1,h2⟩
  ·rw [hιr j i h2]; simp only [ι',hmpf j i h2]
  ·simp only [ι',(hfi i j).2 h2]
 have hcase := hw
 have hold : ∀ i cs', H i = some cs' → ι' i = ι i := by
  intro i cs' hi
  simp only [ι']
  cases hq : fi i with
  | none => rfl
  | some j2 => rcases g.obj i cs' hi with ⟨q,_⟩ | ⟨_,_,_,_,q,_⟩ <;> (rw [hnone i _ hq] at q;cases q)
 have hnW : ∀ (i : Nat) cs' b β, H i = some cs' → (∀ j, mpF j ≠ some i) → ι i = some (some (b, β)) → ¬ W0 b := by
  rintro i cs' b β hi hm hb ⟨j,i2,β2,q1,q2⟩
  obtain ⟨cs,c2,_,q3,_⟩ := hH0 j i2 q1
  have := g.sep _ _ _ _ _ _ _ hi q3 hb q2
  subst this
  exact hm j q1
 have hobjlt : ∀ i cs' b β,H i = some cs' → ι i = some (some (b,β)) → b < w.heap.size := fun i cs' b β hi hb => g.bad_lt b (.inr ⟨i,cs',β,hi,hb⟩)
 have hcal : ∀ j cs b β, H' j = some cs → ιr j = some (some (b, β)) → W0 b ∨ w.heap.size ≤ b := by
  intro j cs b β hj hb
  rcases gr.obj j cs hj with ⟨q,_⟩ | ⟨b',β',arr,e,q,q4,q5,q6,q7,q8⟩
  ·rw [q] at hb;cases hb
  ·rw [q] at hb;cases hb;exact q8
 have hbad : ∀ b, badOf C.X ι' H2 b → badOf C.X ι H b ∨ w.heap.size ≤ b := by
  rintro b (h1 | ⟨i,cs',β,h1,h2⟩)
  ·exact .inl (.inl h1)
  ·rcases hcase i cs' h1 with ⟨j, cs, q1, q2, q3⟩ | ⟨q1, q2⟩
   ·rw [← hto j i q1] at h2
    rcases hcal j cs b β (hkeep j cs q2) h2 with q|q
    ·exact .inl (hW0 b q).2.2
    ·exact .inr q
   ·rw [hold i cs' q1] at h2;exact .inl (.inr ⟨i,cs',β,q1,h2⟩)
 have hfr := gr.fr
 have hcar : Carry w (badOf C.X ι H) ι w' (badOf C.X ι' H2) ι' := by
  refine ⟨fun b o y h1 h2 => ?_,fun i q hq => ?_,hfr.bs⟩
  ·have hlt := lt_of_cell h2
   refine ⟨fun hb => ?_,?_⟩
   ·rcases hbad b hb with h | h
    ·exact h1 h
    ·omega
   ·rw [cell?_heap (hfr.block b hlt (fun hw0 => h1 (hW0 b hw0).2.2))]; exact h2
  ·simp only [ι']
   cases hq2 : fi i with
   | none => exact hq
   | some j2 => rw [hnone i _ hq2] at hq;cases hq
 have hrn2 : RnH w' (rhoG mpF fr) (badOf C'.X ιr H') ιr (badOf C.X ι' H2) ι' := by
  refine ⟨⟨fun b o y h1 h2 => ⟨fun hb => h1 ?_,h2⟩,fun _ _ h => h,fun _ => Nat.le_refl _⟩,fun j i hj => hto j i hj⟩
  rcases hb with hb | ⟨i,cs',β,q1,q2⟩
  ·exact .inl ⟨.inl hb,fun hw0 => (hW0 b hw0).1 hb⟩
  ·rcases hcase i cs' q1 with ⟨j, cs, r1, r2, r3⟩ | ⟨r1, r2⟩
   ·rw [← hto j i r1] at q2
    exact .inr ⟨j,cs,β,hkeep j cs r2,q2⟩
   ·rw [hold i cs' r1] at q2
    exact .inl ⟨.inr ⟨i,cs',β,r1,q2⟩,hnW i cs' b β r1 r2 q2⟩
 refine ⟨v,ι',rfl,⟨fun i cs' hi => ?_,fun i i2 cs1 cs2 b β β' h1 h2 h3 h4 => ?_,⟨hfr.os.trans g.fr.os,hfr.tape.trans g.fr.tape,hfr.output.trans g.fr.output,Nat.le_trans g.fr.size hfr.size,fun b hb hnw => ?_,fun b => Nat.le_trans (g.fr.bs b) (hfr.bs b)⟩,fun i q hq => hcar.pl i q (g.ex i q hq),fun i hi => ?_⟩,hcar,RnV.fwd hrn2 hr hrd⟩
 ·rcases hcase i cs' hi with ⟨j, cs, q1, q2, q3⟩ | ⟨q1, q2⟩
  ·rcases gr.obj j cs (hkeep j cs q2) with ⟨r1, r2⟩ | ⟨b, β, arr, e, r1, r2, r3, r4, r5, r6⟩
   ·refine .inl ⟨by rw [← hto j i q1]; exact r1, ?_⟩
    subst r2
    exact List.eq_nil_of_length_eq_zero (by rw [← q3.len]; rfl)
   ·refine .inr ⟨b, β, arr, e, by rw [← hto j i q1]; exact r1, r2, by rw [← q3.len]; exact r3, RnL.fwdC hrn2 q3 r4, ?_, ?_⟩
    ·rcases r6 with r6 | r6
     ·exact (hW0 b r6).1
     ·intro hX
      have := C.xlt b hX
      have := g.fr.size
      have : w.heap.size ≤ b := r6
      omega
    ·rcases r6 with r6 | r6
     ·exact (hW0 b r6).2.1
     ·refine .inr ?_
      have := g.fr.size
      have : w.heap.size ≤ b := r6
      omega
  ·rcases g.obj i cs' q1 with ⟨r1, r2⟩ | ⟨b, β, arr, e, r1, r2, r3, r4, r5, r6⟩
   ·exact .inl ⟨by rw [hold i cs' q1]; exact r1,r2⟩
   ·have hlt := lt_of_heap r2
    have hbl := hfr.block b hlt (hnW i cs' b β q1 q2 r1)
    exact .inr ⟨b,β,arr,e,by rw [hold i cs' q1]; exact r1,by rw [hbl]; exact r2,r3,RdC.carryB hcar _ _ _ (fun o y hy => by rw [cell?_heap hbl]; exact hy) r4,r5,r6⟩
 ·rcases hcase i cs1 h1 with ⟨j, c1, q1, q2, q3⟩ | ⟨q1, q2⟩ <;> rcases hcase i2 cs2 h2 with ⟨j2, c2, q1', q2', q3'⟩ | ⟨q1', q2'⟩
  ·rw [← hto j i q1] at h3
   rw [← hto j2 i2 q1'] at h4
   have := gr.sep _ _ _ _ _ _ _ (hkeep j c1 q2) (hkeep j2 c2 q2') h3 h4
   subst this
   rw [q1] at q1'; cases q1'; rfl
  ·rw [← hto j i q1] at h3
   rw [hold i2 cs2 q1'] at h4
   have hlt := hobjlt i2 cs2 b _ q1' h4
   rcases hcal j c1 b _ (hkeep j c1 q2) h3 with q|q
   ·exact (hnW i2 cs2 b _ q1' q2' h4 q).elim
   ·omega
  ·rw [hold i cs1 q1] at h3
   rw [← hto j2 i2 q1'] at h4
   have hlt := hobjlt i cs1 b _ q1 h3
   rcases hcal j2 c2 b _ (hkeep j2 c2 q2') h4 with q|q
   ·exact (hnW i cs1 b _ q1 q2 h3 q).elim
   ·omega
  ·rw [hold i cs1 q1] at h3
   rw [hold i2 cs2 q1'] at h4
   exact g.sep _ _ _ _ _ _ _ q1 q1' h3 h4
 ·have hb2 : b < w.heap.size := by have := g.fr.size; omega
  rw [hfr.block b hb2 (fun hw0 => ?_)]
  ·exact g.fr.block b hb hnw
  ·rcases (hW0 b hw0).2.1 with q | q
   ·exact hnw q
   ·omega
 ·simp only [ι', hi.2]
  exact g.fresh i hi.1
attribute [local irreducible] big
def FCt (P : Program) (k : FuncId) (args : List AV) (R0 : List (List Bool)) (r : AV) (hh : List (Nat × Option (List AV))) : Prop :=
 GCalls P k args (lkH (famB R0)) (Fn 0 ⟨0,big + R0.length⟩) (fun r' H' => r' = r ∧ ∀ id cs,lkH (hh ++ famB R0) id = some cs → H' id = some cs)
def GCt (P : Program) (k : FuncId) (args : List AV) (r : AV) (R1 : List (List Bool)) : Prop :=
 GCalls P k args (lkH []) (Fn 0 ⟨0,big⟩) (fun r' H' => r' = r ∧ ∀ id cs,lkH (famB R1) id = some cs → H' id = some cs)
theorem fc_ret {hs:List (Nat × Option (List AV))}{r r':AV}{R0:List (List Bool)}{hh:List (Nat × Option (List AV))}(hr:r' = r) (hh':subH hs hh) (hF:FamR R0 R0 hs hs):r' = r ∧ ∀ id cs,lkH (hh ++ famB R0) id = some cs → lkH hs id = some cs:=by
 refine ⟨hr,fun id cs h => ?_⟩
 rcases lkH_app h with h|h
 ·exact subH_ok hh' id cs h
 ·obtain ⟨k, hk, rfl, rfl⟩ := lkH_fam' h
  exact hF.get hk
theorem gc_ret {hs:List (Nat × Option (List AV))}{r r':AV}{R0:List (List Bool)}(hr:r' = r) (hF:FamR R0 R0 hs hs):r' = r ∧ ∀ id cs,lkH (famB R0) id = some cs → lkH hs id = some cs :=
 fc_ret (hh := []) hr trivial hF
def mpC (b m : Nat) (j : Nat) : Option Nat := if big ≤ j ∧ j < big + m then some (b + j) else none
def frC (n n1 : Nat) (j : Nat) : Option Nat := if j < n1 then some (n + j) else none
def fiC (n n1 : Nat) (i : Nat) : Option Nat := if n ≤ i ∧ i < n + n1 then some (i - n) else none
def rhC (b m n n1 : Nat) : Nat → Option Nat := rhoG (mpC b m) (frC n n1)
theorem rhoG_some {mpF fr:Nat → Option Nat}{j i:Nat}(h:mpF j = some i):rhoG mpF fr j = some i := by unfold rhoG;rw [h]
theorem rhoG_none {mpF fr:Nat → Option Nat}{j:Nat}(h:mpF j = none):rhoG mpF fr j = fr j := by unfold rhoG;rw [h]
theorem mpC_big {b m k:Nat}(h:k < m):mpC b m (k + big) = some (b + k + big):=by
 unfold mpC;rw [if_pos (by omega),Nat.add_assoc]
theorem rhC_big {b m n n1 k:Nat}(h:k < m):rhC b m n n1 (k + big) = some (b + k + big) := rhoG_some (mpC_big h)
theorem rhC_lit {b m n n1 j:Nat}(h:j < n1) (hb:j < big):rhC b m n n1 j = some (n + j):=by
 have e : mpC b m j = none := by unfold mpC;rw [if_neg (by omega)]
 refine (rhoG_none e).trans ?_
 unfold frC;rw [if_pos h]
theorem rn_rows {ρ:Nat → Option Nat}{b b' m w:Nat}(h:∀ k,k < m → ρ (b + k + big) = some (b' + k + big)):RnL ρ (flat (cRw b w) (List.range m)) (flat (cRw b' w) (List.range m)) :=
 RnL.flt fun k hk => by rw [List.mem_range] at hk;exact .cons (.own (h k hk)) .nil
theorem rn_rowsF {m:List (Nat × Nat)}{lo:Lo}{pn:Option Nat}{b k w:Nat}(h:big + (b + k) ≤ lo.fb):RnL (rhoF m lo pn) (flat (cRw b w) (List.range k)) (flat (cRw b w) (List.range k)) :=
 rn_rows fun j hj => rhoF_big (by omega) (by omega)
def wsF (ρ : Nat → Option Nat) (hh : List (Nat × Option (List AV))) : List (Nat × Option (List AV)) → Prop
 | [] => True
 | (i,none) :: l => wsF ρ hh l
 | (i,some cs') :: l => (∃ j cs,ρ j = some i ∧ lkH hh j = some cs ∧ RnL ρ cs cs') ∧ wsF ρ hh l
theorem wsF_ok {ρ:Nat → Option Nat}{hh:List (Nat × Option (List AV))}:∀ {ws:List (Nat × Option (List AV))},wsF ρ hh ws → ∀ i cs',(i,some cs') ∈ ws → ∃ j cs,ρ j = some i ∧ lkH hh j = some cs ∧ RnL ρ cs cs'
 | [],_,i,cs',h => by simp at h
 | (u, none) :: l, hw, i, cs', h => by
  simp only [wsF] at hw
  rcases List.mem_cons.1 h with h|h
  ·cases h
  ·exact wsF_ok hw i cs' h
 | (u, some c) :: l, hw, i, cs', h => by
  simp only [wsF] at hw
  rcases List.mem_cons.1 h with h|h
  ·cases h;exact hw.1
  ·exact wsF_ok hw.2 i cs' h
section
theorem rx_fcall {k:FuncId}{args:Array Operand}{tys:Array TypeId}{avs avs0:List AV}{R R0:List (List Bool)}{r rr':AV}{hh:List (Nat × Option (List AV))}(b n1:Nat) (D:List Nat) (ws:List (Nat × Option (List AV))) [hc:CaT P k]
  (ha : evL (lk ts) args.toList = some avs) (h : FCt P k avs0 R0 r hh) (hF : FamR R R hs hs) (hb : b + R0.length ≤ R.length) (hR : ∀ k,k < R0.length → R0[k]! = R[b + k]!) (hD : ∀ k,k < R0.length → b + k + big ∈ D)
  (har : RnL (mpC b R0.length) avs0 avs) (hk : keysLt big hh = true) (hr : RnV (rhC b R0.length n n1) r rr') (hw : wsF (rhC b R0.length n n1) hh ws) (hM : Nat.ble (n + n1) big = true) (hN : Nat.blt d N = true)
  {md' : Md} [hmd : MdA md (rOs args.toList ++ D.map .inr) (ws.map (fun p => .inr p.1) ++ [.inl d]) md']
  (kk : RW P N all Q md' rest ⟨(d,rr') :: ts,wrH hs ws,n + n1,z0⟩) : RW P N all Q md (⟨some d,.call ⟨.value (.func k),args,tys⟩,ty,pos,af,none⟩ :: rest) ⟨ts,hs,n,z0⟩ := by
 have hM' := Nat.le_of_ble_eq_true hM
 refine rw_step (rs := rOs args.toList ++ D.map .inr) (ws := ws) (n' := n + n1) (out := rr') rfl (Nat.le_add_right _ _) (.inr hM') (fun C ι F T H a w K Q' hCN ag hFf g gh hK => ?_) (fun x hx => by cases hx;exact ltb hN) (by simp only [wD]; rw [← hmd.pf] at kk;exact kk)
 simp only [Oper.wp,exec_call hc.pf,Oper.upon]
 have hH : ∀ q, q < R0.length → H (b + q + big) = some (flat cB R[b + q]!) := fun q hq => by
  rw [ag.r.h _ (List.mem_map_of_mem (hD q hq))]; exact hF.get (by omega)
 have hmp : ∀ j i, mpC b R0.length j = some i → ∃ q, q < R0.length ∧ j = q + big ∧ i = b + q + big := by
  intro j i hj
  unfold mpC at hj
  split at hj
  ·cases hj;exact ⟨j - big,by omega,by omega,by omega⟩
  ·cases hj
 have hrh : ∀ j i, frC n n1 j = some i → j < n1 ∧ i = n + j := by
  intro j i hj
  unfold frC at hj
  split at hj
  ·cases hj;exact ⟨by assumption,rfl⟩
  ·cases hj
 refine (call_gen (fr := frC n n1) (fi := fiC n n1) (hh := lkH (hh ++ famB R0)) (H2 := updL H ws) h (fun j j' i h1 h2 => ?_) (fun i j => ?_) (fun j i h1 => ?_) (fun j hj => ?_) gh (fun j i hj => ?_) (fun j cs hj => ?_) har (fun j i hj => ?_) hr (fun i cs' hi => ?_) (evL_ok g (ag.l.evL.trans ha))).mono ?_
 ·obtain ⟨q, _, _, _⟩ := hmp j i h1
  obtain ⟨q',_,_,_⟩ := hmp j' i h2
  omega
 ·unfold fiC frC
  constructor
  ·intro h1
   split at h1
   ·cases h1;rw [if_pos (by omega)]; congr 1;omega
   ·cases h1
  ·intro h1
   split at h1
   ·cases h1;rw [if_pos (by omega)]; congr 1;omega
   ·cases h1
 ·have := hrh j i h1
  unfold mpC;rw [if_neg (by omega)]
 ·have h1 : j < big ∨ big + R0.length ≤ j := hj.2
  unfold mpC;rw [if_neg (by omega)]
 ·obtain ⟨q, q1, rfl, rfl⟩ := hmp j i hj
  refine ⟨flat cB R0[q]!,flat cB R[b + q]!,?_,hH q q1,?_⟩
  ·rw [lkH_fam,if_pos q1]
  ·rw [hR q q1]; exact .pur (inferInstance : Pur (flat cB R[b + q]!)).pf
 ·obtain ⟨q, q1, rfl, rfl⟩ := lkH_fam' hj
  exact ⟨_,mpC_big q1⟩
 ·obtain ⟨q1, rfl⟩ := hrh j i hj
  exact hFf _ (Nat.le_add_right _ _) (by omega)
 ·rcases updL_mem hi with h1 | ⟨h1, h2⟩
  ·obtain ⟨j, cs, q1, q2, q3⟩ := wsF_ok hw i cs' h1
   exact .inl ⟨j,cs,q1,lkH_appL q2,q3⟩
  ·by_cases hq : ∃ q, q < R0.length ∧ i = b + q + big
   ·obtain ⟨q, q1, rfl⟩ := hq
    rw [hH q q1] at h1
    cases h1
    refine .inl ⟨q + big,flat cB R0[q]!,rhC_big q1,?_,?_⟩
    ·rw [lkH_appR (keysLt_mono (by omega) hk),lkH_fam,if_pos q1]
    ·rw [hR q q1]; exact .pur (inferInstance : Pur (flat cB R[b + q]!)).pf
   ·refine .inr ⟨h1, fun j hj => hq ?_⟩
    obtain ⟨q,q1,_,q2⟩ := hmp j i hj
    exact ⟨q,q1,q2⟩
 ·rintro e w' ⟨v, ι', rfl, g', c', hrd⟩
  refine hK ι' w' v (g.carry c') (g'.less (fun _ _ h => h) (fun j hj => ⟨hj.1,?_⟩)).1 hrd
  unfold fiC;rw [if_neg hj.2]
theorem rx_gcall {k:FuncId}{args:Array Operand}{tys:Array TypeId}{avs:List AV}{R R1:List (List Bool)}{r rr':AV}{hs':List (Nat × Option (List AV))}{l0:Nat}[hc:CaT P k]
  (ha : evL (lk ts) args.toList = some avs) (h : GCt P k avs r R1) (hp : pursB avs = true) (hF : FamR R (R ++ R1) hs hs') (hz : z0 = ⟨l0,big + R.length⟩)
  (hr : RnV (fun j => if big ≤ j ∧ j < big + R1.length then some (R.length + j) else none) r rr') (hM : Nat.ble n big = true) (hN : Nat.blt d N = true)
  (kk : RW P N all Q .txt rest ⟨(d,rr') :: ts,hs',n,⟨l0,big + (R ++ R1).length⟩⟩) : RW P N all Q .txt (⟨some d,.call ⟨.value (.func k),args,tys⟩,ty,pos,af,none⟩ :: rest) ⟨ts,hs,n,z0⟩ := by
 subst hz
 rintro C a w hCN ⟨h0,ι,g,gh⟩
 refine wpList_plain rfl (fun K hK => ?_)
 simp only [Oper.wp,exec_call hc.pf,Oper.upon]
 have hM' := Nat.le_of_ble_eq_true hM
 have hrh : ∀ j i, (fun j => if big ≤ j ∧ j < big + R1.length then some (R.length + j) else none) j = some i → big ≤ j ∧ j < big + R1.length ∧ i = R.length + j := by
  intro j i hj
  dsimp only at hj
  split at hj
  ·rename_i hh;cases hj;exact ⟨hh.1,hh.2,rfl⟩
  ·cases hj
 have hrho : rhoG (fun _ => none) (fun j => if big ≤ j ∧ j < big + R1.length then some (R.length + j) else none) = (fun j => if big ≤ j ∧ j < big + R1.length then some (R.length + j) else none) := by funext j;rfl
 have hlen : (R ++ R1).length = R.length + R1.length := List.length_append
 refine (call_gen (mpF := fun _ => none) (fr := fun j => if big ≤ j ∧ j < big + R1.length then some (R.length + j) else none) (fi := fun i => if big + R.length ≤ i ∧ i < big + R.length + R1.length then some (i - R.length) else none) (hh := lkH (famB R1)) (H2 := lkH hs') (args' := avs)
  h (fun j j' i h1 h2 => by cases h1) (fun i j => ?_) (fun j i h1 => rfl) (fun j hj => rfl) gh (fun j i hj => by cases hj) (fun j cs hj => by simp [lkH] at hj) (.pur hp) (fun j i hj => ?_) (rr' := rr') (by rw [hrho]; exact hr) (fun i cs' hi => ?_) (evL_ok g ha)).mono ?_
 ·constructor
  ·intro h1
   split at h1
   ·cases h1;rw [if_pos (by omega)]; congr 1;omega
   ·cases h1
  ·intro h1
   split at h1
   ·cases h1;rw [if_pos (by omega)]; congr 1;omega
   ·cases h1
 ·obtain ⟨q1, q2, rfl⟩ := hrh j i hj
  exact ⟨by show n ≤ R.length + j;omega,.inr (by show big + R.length ≤ R.length + j;omega)⟩
 ·rcases Nat.lt_or_ge i big with hi2 | hi2
  ·exact .inr ⟨by rw [hF.low i hi2]; exact hi,fun j => by simp⟩
  ·obtain ⟨q, rfl⟩ : ∃ q, i = q + big := ⟨i - big, by omega⟩
   have hg := hF.symm.fam q
   rw [hi] at hg
   split at hg
   ·rename_i hq
    cases hg
    rcases Nat.lt_or_ge q R.length with hq2|hq2
    ·refine .inr ⟨?_, fun j => by simp⟩
     have e : (R ++ R1)[q]! = R[q]! := by rw [getB _ _ hq,getB _ _ hq2,List.getElem_append_left hq2]
     rw [e]; exact hF.get hq2
    ·refine .inl ⟨(q - R.length) + big, flat cB R1[q - R.length]!, ?_, ?_, ?_⟩
     ·rw [hrho]
      show (if big ≤ q - R.length + big ∧ q - R.length + big < big + R1.length then some (R.length + (q - R.length + big)) else none) = some (q + big)
      rw [if_pos (by omega)]; congr 1;omega
     ·rw [lkH_fam,if_pos (by omega)]
     ·have e : (R ++ R1)[q]! = R1[q - R.length]! := by rw [getB _ _ hq, getB _ _ (by omega), List.getElem_append_right hq2]
      rw [e]; exact .pur (inferInstance : Pur (flat cB R1[q - R.length]!)).pf
   ·cases hg
 ·rintro e w' ⟨v, ι', rfl, g', c', hrd⟩
  refine hK _ _ (kk C _ _ hCN ⟨fun id hid => ?_,ι',?_,?_⟩)
  ·rcases h0 id hid with q | q
   ·exact .inl ⟨q.1,by have := q.2;show id < big + (R ++ R1).length;have h5 : id < big + R.length := this;omega⟩
   ·exact .inr q
  ·show TG C ι' (lk ((d, rr') :: ts)) _ _ _
   rw [lk_cons]
   exact (g.carry c').put (hCN.symm ▸ ltb hN) hrd
  ·refine (g'.less (fun _ _ h => h) (fun j hj => ?_)).1
   have h3 : n ≤ j := hj.1
   have h4 : j < big ∨ big + (R ++ R1).length ≤ j := hj.2
   refine ⟨⟨h3,?_⟩,?_⟩
   ·show j < big ∨ big + R.length ≤ j
    omega
   ·rw [if_neg (by omega)]
end
theorem fc_of_aw {P:Program}{k:FuncId}{fn:Func}{c:Code}{args:List AV}{R0:List (List Bool)}{r:AV}{hh:List (Nat × Option (List AV))}(hf:P.funcs[k]? = some fn) (hb:fn.body = some c) (hN:args.length ≤ fn.ntmps)
  (h : AW P fn.ntmps c (retQ P fn.results (fun r' H' => r' = r ∧ ∀ id cs,lkH (hh ++ famB R0) id = some cs → H' id = some cs)) ⟨argTs 0 args,famB R0,0,⟨0,big + R0.length⟩⟩) : FCt P k args R0 r hh := gcalls_of_aw hf hb hN h
theorem gc_of_aw {P:Program}{k:FuncId}{fn:Func}{c:Code}{args:List AV}{R1:List (List Bool)}{r:AV}(hf:P.funcs[k]? = some fn) (hb:fn.body = some c) (hN:args.length ≤ fn.ntmps)
  (h : AW P fn.ntmps c (retQ P fn.results (fun r' H' => r' = r ∧ ∀ id cs,lkH (famB R1) id = some cs → H' id = some cs)) ⟨argTs 0 args,[],0,⟨0,big⟩⟩) : GCt P k args r R1 := gcalls_of_aw hf hb hN h
theorem Le.virt {ts:List (Nat × AV)}{hs:List (Nat × Option (List AV))}{n:Nat}{z0:Lo}(hn:n < big):Le ⟨ts,hs,n,z0⟩ ⟨ts,(n,some []) :: hs,n + 1,z0⟩:=by
 rintro C a w ⟨h0,ι,g,gh⟩
 obtain ⟨g1,c1⟩ := gh.virt (id := n) ⟨Nat.le_refl _,.inl hn⟩
 have e : lkH ((n,some []) :: hs) = upd (lkH hs) n (some []) := lkH_cons _ _ _
 refine ⟨h0,upd ι n (some none),?_,?_⟩
 ·show TG C _ (lk ts) (lkH ((n, some []) :: hs)) a w
  rw [e]; exact g.carry c1
 ·show HG C _ _ (lkH ((n, some []) :: hs)) w
  rw [e]
  refine (g1.less (fun _ _ h => h) (fun j hj => ?_)).1
  have h1 : n + 1 ≤ j := hj.1
  exact ⟨⟨by show n ≤ j;omega,hj.2⟩,by omega⟩
theorem Le.cellsN {ts:List (Nat × AV)}{hs:List (Nat × Option (List AV))}{n:Nat}{z0:Lo}{i q:Nat}{cs cs' cq:List AV}(hi:lkH hs i = some cs) (hq:lkH hs q = some cq) (hl:cs'.length = cs.length)
  (h : ∀ (w : World) (bad : Nat → Prop) (ι : Pl) (b β : Nat),(∃ p,ι q = some p) → RdC w bad ι cs b β → RdC w bad ι cs' b β) :
  Le ⟨ts,hs,n,z0⟩ ⟨ts,(i,some cs') :: hs,n,z0⟩ := by
 rintro C a w ⟨h0,ι,g,gh⟩
 have hqq : ∃ p, ι q = some p := by
  rcases gh.obj q cq hq with ⟨p1,_⟩ | ⟨_,_,_,_,p1,_⟩ <;> exact ⟨_,p1⟩
 have hk : ∀ id c, lkH ((i, some cs') :: hs) id = some c → (id = i ∧ c = cs') ∨ (id ≠ i ∧ lkH hs id = some c) := by
  intro id c hc
  rw [lkH_c] at hc
  split at hc
  ·rename_i e;cases hc;exact .inl ⟨e,rfl⟩
  ·rename_i e;exact .inr ⟨fun h => e h,hc⟩
 have hk2 : ∀ id c, lkH hs id = some c → ∃ c', lkH ((i, some cs') :: hs) id = some c' := by
  intro id c hc
  rw [lkH_c]
  split
  ·exact ⟨_,rfl⟩
  ·exact ⟨_,hc⟩
 have hb : badOf C.X ι (lkH ((i, some cs') :: hs)) = badOf C.X ι (lkH hs) := by
  funext b
  refine propext ⟨?_,?_⟩
  ·rintro (h | ⟨id, c, β, h1, h2⟩)
   ·exact .inl h
   ·rcases hk id c h1 with ⟨rfl, _⟩ | ⟨_, h3⟩
    ·exact .inr ⟨_,_,_,hi,h2⟩
    ·exact .inr ⟨_,_,_,h3,h2⟩
  ·rintro (h | ⟨id, c, β, h1, h2⟩)
   ·exact .inl h
   ·obtain ⟨c', h3⟩ := hk2 id c h1
    exact .inr ⟨_,_,_,h3,h2⟩
 refine ⟨h0,ι,⟨g.df,g.sz,fun t av ht => ?_⟩,?_,?_,gh.fr,gh.ex,gh.fresh⟩
 ·show ∃ y, a.tmps[t]? = some y ∧ Rd w (badOf C.X ι (lkH ((i, some cs') :: hs))) ι av y
  rw [hb]; exact g.tm t av ht
 ·intro id c hc
  show _ ∨ ∃ b β arr e,ι id = some (some (b,β)) ∧ w.heap[b]? = some (.cells arr e (0,0)) ∧ β + c.length ≤ arr.size ∧ RdC w (badOf C.X ι (lkH ((i,some cs') :: hs))) ι c b β ∧ ¬ C.X b ∧ (C.W0 b ∨ C.w0.heap.size ≤ b)
  rw [hb]
  rcases hk id c hc with ⟨rfl,rfl⟩ | ⟨_,h3⟩
  ·rcases gh.obj _ _ hi with ⟨q1, q2⟩ | ⟨b, β, arr, e, q1, q2, q3, q4, q5⟩
   ·subst q2
    exact .inl ⟨q1,List.eq_nil_of_length_eq_zero hl⟩
   ·exact .inr ⟨b,β,arr,e,q1,q2,by rw [hl]; exact q3,h _ _ _ _ _ hqq q4,q5⟩
  ·exact gh.obj _ _ h3
 ·intro id id' c c' b β β' h1 h2 h3 h4
  obtain ⟨d1, e1⟩ : ∃ d, lkH hs id = some d := by
   rcases hk id c h1 with ⟨rfl,_⟩ | ⟨_,h⟩
   ·exact ⟨_,hi⟩
   ·exact ⟨_,h⟩
  obtain ⟨d2, e2⟩ : ∃ d, lkH hs id' = some d := by
   rcases hk id' c' h2 with ⟨rfl,_⟩ | ⟨_,h⟩
   ·exact ⟨_,hi⟩
   ·exact ⟨_,h⟩
  exact gh.sep id id' d1 d2 b β β' e1 e2 h3 h4
theorem RdC_mid {w:World}{bad:Nat → Prop}{ι:Pl}{c c':AV}(hc:∀ y,Rd w bad ι c y → Rd w bad ι c' y):∀ (a:List AV) (r:List AV) (b o:Nat),RdC w bad ι (a ++ c :: r) b o → RdC w bad ι (a ++ c' :: r) b o
 | [], r, b, o, h => by
  simp only [List.nil_append,RdC] at h ⊢
  obtain ⟨⟨x,h1,h2,h3⟩,h4⟩ := h
  exact ⟨⟨x,h1,h2,hc _ h3⟩,h4⟩
 | x :: a, r, b, o, h => by
  simp only [List.cons_append,RdC] at h ⊢
  exact ⟨h.1,RdC_mid hc a r b (o + 1) h.2⟩
theorem Le.nilCell {ts:List (Nat × AV)}{hs:List (Nat × Option (List AV))}{n:Nat}{z0:Lo}{i:Nat}(e:Nat) (c1:List AV){c2:List AV}(hi:lkH hs i = some (c1 ++ .v (.slice none 0 0) :: c2)) (hin:i ≠ n) (hn:n < big) :
  Le ⟨ts,hs,n,z0⟩ ⟨ts,(i,some (c1 ++ .own n 0 0 e :: c2)) :: (n,some []) :: hs,n + 1,z0⟩ :=
 (Le.virt hn).trans (Le.cellsN (q := n) (cs := c1 ++ .v (.slice none 0 0) :: c2) (by rw [lkH_c, if_neg hin]; exact hi) (by rw [lkH_c, if_pos rfl]) (by simp) fun w bad ι b β hp hr =>
  RdC_mid (fun y hy => by simp only [Rd] at hy ⊢; exact .inl ⟨hp,trivial,none,hy⟩) c1 c2 b β hr)
theorem Le.frzC {ts:List (Nat × AV)}{hs:List (Nat × Option (List AV))}{n:Nat}{z0:Lo}{j i m e:Nat}(c1:List AV){c2 d:List AV}(hj:lkH hs j = some (c1 ++ .own i 0 m e :: c2)) (hi:lkH hs i = some d) (hij:j ≠ i) :
  Le ⟨ts,hs,n,z0⟩ ⟨ts,(j,some (c1 ++ .imm m d :: c2)) :: (i,none) :: hs,n,z0⟩ := by
 rintro C a w ⟨h0,ι,g,gh⟩
 have hk : ∀ id c, lkH ((j, some (c1 ++ .imm m d :: c2)) :: (i, none) :: hs) id = some c → (id = j ∧ c = c1 ++ .imm m d :: c2) ∨ (id ≠ j ∧ id ≠ i ∧ lkH hs id = some c) := by
  intro id c hc
  rw [lkH_c] at hc
  split at hc
  ·rename_i e;cases hc;exact .inl ⟨e,rfl⟩
  ·rename_i e
   rw [lkH_c] at hc
   split at hc
   ·cases hc
   ·rename_i e2;exact .inr ⟨e,e2,hc⟩
 have hk2 : ∀ id c, lkH ((j, some (c1 ++ .imm m d :: c2)) :: (i, none) :: hs) id = some c → id ≠ i ∧ ∃ c', lkH hs id = some c' := by
  intro id c hc
  rcases hk id c hc with ⟨rfl,_⟩ | ⟨_,h2,h3⟩
  ·exact ⟨hij,_,hj⟩
  ·exact ⟨h2,_,h3⟩
 have hbad : ∀ b, badOf C.X ι (lkH ((j, some (c1 ++ .imm m d :: c2)) :: (i, none) :: hs)) b → badOf C.X ι (lkH hs) b := by
  rintro b (h | ⟨id,c,β,h1,h2⟩)
  ·exact .inl h
  ·obtain ⟨_, c', h3⟩ := hk2 id c h1
   exact .inr ⟨id,c',β,h3,h2⟩
 have car : Carry w (badOf C.X ι (lkH hs)) ι w (badOf C.X ι (lkH ((j,some (c1 ++ .imm m d :: c2)) :: (i,none) :: hs))) ι := ⟨fun b o x h1 h2 => ⟨fun q => h1 (hbad b q),h2⟩,fun _ _ h => h,fun _ => Nat.le_refl _⟩
 have hcell : ∀ y, Rd w (badOf C.X ι (lkH ((j, some (c1 ++ .imm m d :: c2)) :: (i, none) :: hs))) ι (.own i 0 m e) y → Rd w (badOf C.X ι (lkH ((j, some (c1 ++ .imm m d :: c2)) :: (i, none) :: hs))) ι (.imm m d) y := by
  intro y hr
  simp only [Rd] at hr ⊢
  rcases hr with ⟨_,h2,a',h3⟩ | ⟨b,β,c,h1,h2,h3,h4⟩
  ·subst h2;exact ⟨a',0,h3,.inl rfl⟩
  ·refine ⟨_, c, h2, ?_⟩
   rcases Nat.eq_zero_or_pos m with h5|h5
   ·exact .inl h5
   ·refine .inr ⟨b, β + 0, h3, rfl, ?_⟩
    rcases gh.obj i d hi with ⟨q1,q2⟩ | ⟨b',β',arr,e',q1,q2,q3,q4,q5,q6⟩
    ·rw [h1] at q1;cases q1
    ·rw [h1] at q1; cases q1
     refine .inr ⟨?_,RdC.carryB car _ _ _ (fun o x hx => hx) q4⟩
     rintro (h | ⟨id',cs',β',r1,r2⟩)
     ·exact q5 h
     ·obtain ⟨r3, c', r4⟩ := hk2 id' cs' r1
      exact r3 (gh.sep _ _ _ _ _ _ _ r4 hi r2 h1)
 refine ⟨h0,ι,g.carry car,⟨fun id c hc => ?_,fun id id' c c' b β β' h1 h2 h3 h4 => ?_,gh.fr,gh.ex,gh.fresh⟩⟩
 ·rcases hk id c hc with ⟨rfl, rfl⟩ | ⟨_, _, h3⟩
  ·rcases gh.obj _ _ hj with ⟨q1, q2⟩ | ⟨b, β, arr, e, q1, q2, q3, q4, q5⟩
   ·simp at q2
   ·exact .inr ⟨b,β,arr,e,q1,q2,by simpa using q3,RdC_mid hcell c1 c2 b β (RdC.carryB car _ _ _ (fun o x hx => hx) q4),q5⟩
  ·rcases gh.obj _ _ h3 with ⟨q1, q2⟩ | ⟨b, β, arr, e, q1, q2, q3, q4, q5⟩
   ·exact .inl ⟨q1,q2⟩
   ·exact .inr ⟨b,β,arr,e,q1,q2,q3,RdC.carryB car _ _ _ (fun o x hx => hx) q4,q5⟩
 ·obtain ⟨_, d1, e1⟩ := hk2 id c h1
  obtain ⟨_,d2,e2⟩ := hk2 id' c' h2
  exact gh.sep id id' d1 d2 b β β' e1 e2 h3 h4
theorem sC_fam {R:List (List Bool)}{hs hs':List (Nat × Option (List AV))}{k m:Nat}(hF:FamR R R hs hs') (hk:k < R.length) (hm:m = R[k]!.length):sCells (lkH hs) 1 (kAV (.own (k + big) 0 m 1)) = some (m,flat cB R[k]!):=by
 subst hm
 have hl : (flat cB R[k]!).length = R[k]!.length * 1 := flat_length cB _
 show (lkH hs (k + big)).bind (fun cs => if R[k]!.length * 1 ≤ (cs.drop 0).length then some (R[k]!.length,(cs.drop 0).take (R[k]!.length * 1)) else none) = _
 rw [hF.get hk,Option.bind_some,List.drop_zero,if_pos (by omega),List.take_of_length_le (by omega)]
theorem spl_one {cs:List AV}{v:Nat}{c:AV}:spl cs (0 + v * 1) [c] = cs.take v ++ c :: cs.drop (v + 1):=by
 unfold spl;simp
theorem rowsSet {u:List (List Bool)}{v:Nat}{r:List Bool}(hv:v < u.length):(flat cBB u).take v ++ .imm r.length (flat cB r) :: (flat cBB u).drop (v + 1) = flat cBB (u.set v r):=by
 have h := st_rows (xs := u) (k := v) (r := r) hv
 rw [spl_one] at h;exact h
theorem Le.frzRow {ts:List (Nat × AV)}{hs:List (Nat × Option (List AV))}{n:Nat}{z0:Lo}{j q v m:Nat}{u:List (List Bool)}{r:List Bool}(hj:lkH hs j = some (spl (flat cBB u) (0 + v * 1) [.own q 0 m 1])) (hq:lkH hs q = some (flat cB r)) (hm:m = r.length) (hv:v < u.length) (hjq:j ≠ q) :
  Le ⟨ts,hs,n,z0⟩ ⟨ts,(j,some (flat cBB (u.set v r))) :: (q,none) :: hs,n,z0⟩ := by
 subst hm
 rw [spl_one] at hj
 have h := Le.frzC (ts := ts) (n := n) (z0 := z0) ((flat cBB u).take v) hj hq hjq
 rwa [rowsSet hv] at h
theorem Le.fdrop {ts:List (Nat × AV)}{hs:List (Nat × Option (List AV))}{n:Nat}{z0:Lo}{k:Nat}{R:List (List Bool)}(hF:FamR R R hs hs) (hk:k < R.length):Le ⟨ts,(k + big,some (flat cB R[k]!)) :: hs,n,z0⟩ ⟨ts,hs,n,z0⟩:=by
 refine Le.of (fun _ _ h => h) (fun i cs h => ?_) (Nat.le_refl _) rfl
 have h' : lkH hs i = some cs := h
 show lkH ((k + big,some (flat cB R[k]!)) :: hs) i = some cs
 rw [lkH_c]
 split
 ·rename_i e;subst e;rw [hF.get hk] at h'; exact h'
 ·exact h'
theorem dist2 {i k:Nat}(hi:Nat.blt i big = true):distinct [i,k + big] = true:=by
 have h1 := ltb hi
 have : Nat.beq i (k + big) = false := by
  cases h : Nat.beq i (k + big) with
  | false => rfl
  | true => have := Nat.eq_of_beq_eq_true h;omega
 simp only [distinct,List.all_cons,List.all_nil,this]; rfl
structure Hid (T : Prop) : Prop where pf : T
theorem cut {G:Prop}{T:Prop}(key:T) (main:Hid T → G):G := main ⟨key⟩
end Go.AL
