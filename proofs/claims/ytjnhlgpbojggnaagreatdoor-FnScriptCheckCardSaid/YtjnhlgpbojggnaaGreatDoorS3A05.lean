/-
 A part of the proofs over this program: rules and contracts of its functions (the rules).
-/
import Derived.Test.YtjnhlgpbojggnaaGreatDoorS3A04
set_option linter.unusedVariables false
set_option linter.unusedSimpArgs false
namespace Go.AL
open Go.RowKit
def typesOk (ts : List Int) : Bool := ts.all (fun t => decide (1 ≤ t) && decide (t ≤ 4)) && decide (ts.length ≤ 6)
theorem typesOk_at {ts:List Int}(h:typesOk ts = true) (i:Nat) (hi:i < ts.length):1 ≤ ts[i]! ∧ ts[i]! ≤ 4:=by
 unfold typesOk at h;grind [all_iff]
theorem typesOk_len {ts:List Int}(h:typesOk ts = true):ts.length ≤ 6:=by
 unfold typesOk at h;grind
theorem typeAt_bd {ts:List Int}(h:typesOk ts = true) (v:Int):0 ≤ typeAt ts v ∧ typeAt ts v ≤ 4:=by
 unfold typeAt;split
 ·rename_i h1;have := typesOk_at h v.toNat (by omega);omega
 ·omega
theorem typeAt_pos {ts:List Int}(h:typesOk ts = true) (v:Int):0 < typeAt ts v ↔ 0 ≤ v ∧ v < ts.length:=by
 unfold typeAt;split
 ·rename_i h1;have := typesOk_at h v.toNat (by omega);omega
 ·omega
def simpleF (ts : List Int) (s : Stmt) : Bool :=
 let x := typeAt ts s.x;let y := typeAt ts s.y
 if s.op = 1 then decide (x = 1 ∧ s.y = 0 ∧ 0 ≤ s.n ∧ s.n ≤ 9)
 else if s.op = 2 then decide (x = 2 ∧ s.y = 0 ∧ 0 ≤ s.n ∧ s.n ≤ 9)
 else if s.n ≠ 0 then false
 else if s.op = 3 then decide (x = y ∧ 0 < x ∧ s.x ≠ s.y)
 else if s.op = 4 then decide (x = 3 ∧ 2 ≤ y ∧ s.x ≠ s.y)
 else if s.op = 5 then decide (x = 4 ∧ (y = 2 ∨ y = 4) ∧ s.x ≠ s.y)
 else if s.op = 6 then decide (x = 1 ∧ 2 ≤ y)
 else if s.op = 7 then decide ((x = 2 ∨ x = 4) ∧ y = 1)
 else if s.op = 8 then decide (x = 2 ∧ s.y = 0)
 else false
theorem getB_mem {α:Type}[Inhabited α] (xs:List α) (i:Nat) (h:i < xs.length):xs[i]! ∈ xs:=by
 rw [getB _ _ h]; exact List.getElem_mem h
mutual
def okS (ts : List Int) (d : Nat) : Stmt → Bool
 | .mk op x y n th el => if op ≠ 9 ∧ op ≠ 10 then th.isEmpty && el.isEmpty && simpleF ts (.mk op x y n th el)
  else match d with
   | 0 => false
   | d + 1 => decide (x = 0 ∧ y = 0 ∧ n = 0) && !(decide (op = 10) && !el.isEmpty) && okL ts d th && okL ts d el
def okL (ts : List Int) (d : Nat) : List Stmt → Bool
 | [] => true
 | s :: l => okS ts d s && okL ts d l
end
mutual
def cntS : Stmt → Nat
 | .mk _ _ _ _ th el => 1 + cntL th + cntL el
def cntL : List Stmt → Nat
 | [] => 0
 | s :: l => cntS s + cntL l
end
theorem cntS_def (s:Stmt):cntS s = 1 + cntL s.th + cntL s.el := by cases s;simp only [cntS,Stmt.th,Stmt.el]
theorem okS_def (ts:List Int) (d:Nat) (s:Stmt):okS ts d s = if s.op ≠ 9 ∧ s.op ≠ 10 then s.th.isEmpty && s.el.isEmpty && simpleF ts s
  else match d with
   | 0 => false
   | d + 1 => decide (s.x = 0 ∧ s.y = 0 ∧ s.n = 0) && !(decide (s.op = 10) && !s.el.isEmpty) && okL ts d s.th && okL ts d s.el := by
 cases s;cases d <;> simp only [okS,Stmt.th,Stmt.el,Stmt.op,Stmt.x,Stmt.y,Stmt.n] <;> rfl
theorem okL_eq (ts:List Int) (d:Nat):∀ l,okL ts d l = l.all (okS ts d)
 | [] => by simp [okL]
 | s :: l => by simp [okL,okL_eq ts d l]
theorem cntL_append:∀ a b,cntL (a ++ b) = cntL a + cntL b
 | [],b => by simp [cntL]
 | s :: a,b => by simp only [List.cons_append,cntL,cntL_append a b]; omega
theorem cntL_mem:∀ {l:List Stmt}{s:Stmt},s ∈ l → cntS s ≤ cntL l
 | s :: l,_,.head _ => by simp only [cntL]; omega
 | _ :: l,s,.tail _ h => by have := cntL_mem h;simp only [cntL]; omega
theorem cntL_at (l:List Stmt) (i:Nat) (h:i < l.length):cntS l[i]! ≤ cntL l := cntL_mem (getB_mem l i h)
theorem cnt_th (s:Stmt):cntL s.th + cntL s.el < cntS s := by rw [cntS_def]; omega
theorem cntL_len:∀ l:List Stmt,l.length ≤ cntL l
 | [] => by simp [cntL]
 | s :: l => by have := cntL_len l;simp only [cntL,List.length_cons,cntS_def]; omega
def validF (p : Prg) : Bool := typesOk p.types && okL p.types 4 p.body && decide (cntL p.body ≤ 30)
theorem okS_int (ts:List Int) (d:Int) (hd:0 ≤ d) (s:Stmt):okS ts d.toNat s = if s.op ≠ 9 ∧ s.op ≠ 10 then s.th.isEmpty && s.el.isEmpty && simpleF ts s
  else if d < 1 then false else decide (s.x = 0 ∧ s.y = 0 ∧ s.n = 0) && !(decide (s.op = 10) && !s.el.isEmpty) && okL ts (d - 1).toNat s.th && okL ts (d - 1).toNat s.el := by
 rw [okS_def]
 by_cases h : s.op ≠ 9 ∧ s.op ≠ 10
 ·rw [if_pos h,if_pos h]
 ·rw [if_neg h, if_neg h]
  by_cases h2 : d < 1
  ·obtain rfl : d = 0 := by omega
   rfl
  ·obtain ⟨k, rfl⟩ : ∃ k : Nat, d = ((k + 1 : Nat) : Int) := ⟨(d - 1).toNat, by omega⟩
   have e1 : (((k + 1 : Nat) : Int)).toNat = k + 1 := rfl
   have e2 : (((k + 1 : Nat) : Int) - 1).toNat = k := by omega
   rw [e1,e2,if_neg h2]
theorem okL_take {ts:List Int}{d:Nat}{l:List Stmt}{k:Nat}(hk:k < l.length) (h:okS ts d l[k]! = false):okL ts d l = false:=by
 rw [okL_eq]; exact all_false _ _ k hk h
theorem okL_all {ts:List Int}{d:Nat}{l:List Stmt}(h:∀ i,i < l.length → okS ts d l[i]! = true):okL ts d l = true:=by
 rw [okL_eq,all_iff]; exact h
mutual
def lcS (most n : Int) : Stmt → Int
 | .mk _ _ _ _ th el => let n1 := n + 1 + lcL (most - n) 0 th;if n1 ≤ most then n1 + lcL (most - n1) 0 el else n1
def lcL (most n : Int) : List Stmt → Int
 | [] => n
 | s :: l => if n ≤ most then lcL most (lcS most n s) l else n
end
theorem lcS_def (most n:Int) (s:Stmt):lcS most n s = if n + 1 + lcL (most - n) 0 s.th ≤ most then (n + 1 + lcL (most - n) 0 s.th) + lcL (most - (n + 1 + lcL (most - n) 0 s.th)) 0 s.el else n + 1 + lcL (most - n) 0 s.th:=by
 cases s;simp only [lcS,Stmt.th,Stmt.el]; rfl
mutual
theorem lcS_bd:∀ (s:Stmt) (most n:Int),n ≤ lcS most n s ∧ lcS most n s ≤ n + cntS s ∧ (lcS most n s ≤ most → lcS most n s = n + cntS s)
 | .mk o x y k th el, most, n => by
  have h1 := lcL_bd th (most - n) 0
  have h2 := fun m => lcL_bd el m 0
  simp only [lcS,cntS]
  split
  ·have := h2 (most - (n + 1 + lcL (most - n) 0 th));omega
  ·omega
theorem lcL_bd:∀ (l:List Stmt) (most n:Int),n ≤ lcL most n l ∧ lcL most n l ≤ n + cntL l ∧ (lcL most n l ≤ most → lcL most n l = n + cntL l)
 | [],most,n => by simp [lcL,cntL]
 | s :: l, most, n => by
  have h1 := lcS_bd s most n
  have h2 := lcL_bd l most (lcS most n s)
  simp only [lcL,cntL]
  split <;> omega
end
theorem lcL_le (l:List Stmt) (m:Int):decide (lcL m 0 l ≤ m) = decide ((cntL l:Int) ≤ m):=by
 have := lcL_bd l m 0;simp only [decide_eq_decide]; omega
theorem lcL_drop (most n:Int) (l:List Stmt) (k:Nat) (hk:k < l.length) (h:n ≤ most):lcL most n (l.drop k) = lcL most (lcS most n l[k]!) (l.drop (k + 1)):=by
 rw [drop_consB _ _ hk,lcL,if_pos h]
theorem lcL_stop (most n:Int) (l:List Stmt) (h:¬ n ≤ most):lcL most n l = n := by cases l <;> simp [lcL,h]
theorem lcL_end (most n:Int) (l:List Stmt) (k:Nat) (hk:¬ k < l.length):lcL most n (l.drop k) = n:=by
 rw [List.drop_of_length_le (by omega)]; simp [lcL]
mutual
def scS (ts : List Int) (nest c : Int) : Stmt → Bool × Int
 | .mk op x y n th el => if 30 < c + 1 then (false, c + 1) else
   if op ≠ 9 ∧ op ≠ 10 then (th.isEmpty && el.isEmpty && simpleF ts (.mk op x y n th el),c + 1)
   else if nest = 4 ∨ x ≠ 0 ∨ y ≠ 0 ∨ n ≠ 0 ∨ (op = 10 ∧ el ≠ []) then (false,c + 1)
   else if (scL ts (nest + 1) (c + 1) th).1 = true then scL ts (nest + 1) (scL ts (nest + 1) (c + 1) th).2 el else (false,(scL ts (nest + 1) (c + 1) th).2)
def scL (ts : List Int) (nest c : Int) : List Stmt → Bool × Int
 | [] => (true,c)
 | s :: l => if (scS ts nest c s).1 = true then scL ts nest (scS ts nest c s).2 l else (false,(scS ts nest c s).2)
end
theorem scS_def (ts : List Int) (nest c : Int) (s : Stmt) : scS ts nest c s = if 30 < c + 1 then (false, c + 1) else
   if s.op ≠ 9 ∧ s.op ≠ 10 then (s.th.isEmpty && s.el.isEmpty && simpleF ts s,c + 1)
   else if nest = 4 ∨ s.x ≠ 0 ∨ s.y ≠ 0 ∨ s.n ≠ 0 ∨ (s.op = 10 ∧ s.el ≠ []) then (false,c + 1)
   else if (scL ts (nest + 1) (c + 1) s.th).1 = true then scL ts (nest + 1) (scL ts (nest + 1) (c + 1) s.th).2 s.el else (false,(scL ts (nest + 1) (c + 1) s.th).2) := by
 cases s;simp only [scS,Stmt.th,Stmt.el,Stmt.op,Stmt.x,Stmt.y,Stmt.n]; rfl
mutual
theorem scS_law (ts:List Int):∀ (s:Stmt) (d:Nat) (c:Int),d ≤ 4 → 0 ≤ c → c ≤ 30 → c ≤ (scS ts (4 - d) c s).2 ∧ (scS ts (4 - d) c s).2 ≤ c + cntS s ∧ (scS ts (4 - d) c s).2 ≤ 31 ∧
  ((scS ts (4 - d) c s).1 = true ↔ okS ts d s = true ∧ c + cntS s ≤ 30) ∧ ((scS ts (4 - d) c s).1 = true → (scS ts (4 - d) c s).2 = c + cntS s)
 | .mk op x y n th el, d, c, hd, hc0, hc => by
  have hS : cntS (.mk op x y n th el) = 1 + cntL th + cntL el := by simp only [cntS]
  rw [hS]
  simp only [scS]
  split
  ·simp;omega
  ·rename_i h30
   split
   ·rename_i hop
    simp only [okS,hop,if_true,ne_eq,not_false_eq_true,and_self]
    cases th with
    | cons a b => simp [cntL]; have := cntS_def a;omega
    | nil => cases el with
     | cons a b => simp [cntL]; have := cntS_def a;omega
     | nil => simp [cntL,hop]; omega
   ·rename_i hop
    split
    ·rename_i hb
     have : okS ts d (.mk op x y n th el) = false := by
      simp only [okS,hop,if_false]
      cases d with
      | zero => rfl
      | succ d =>
       simp only [Bool.and_eq_false_iff,decide_eq_false_iff_not,Bool.not_eq_false',Bool.and_eq_true,decide_eq_true_eq]
       rcases hb with h|h|h|h | ⟨h1,h2⟩
       ·omega
       ·exact .inl (.inl (.inl (by omega)))
       ·exact .inl (.inl (.inl (by omega)))
       ·exact .inl (.inl (.inl (by omega)))
       ·exact .inl (.inl (.inr ⟨h1,by cases el;exact absurd rfl h2;rfl⟩))
     simp [this]; omega
    ·rename_i hb
     cases d with
     | zero => exact absurd (.inl rfl) hb
     | succ d =>
      have e : ((4 : Int) - ((d + 1 : Nat) : Int)) + 1 = 4 - (d : Int) := by omega
      rw [e]
      have h1 := scL_law ts th d (c + 1) (by omega) (by omega) (by omega)
      have hok : okS ts (d + 1) (.mk op x y n th el) = (okL ts d th && okL ts d el) := by
       simp only [okS,hop,if_false]
       have e1 : (x = 0 ∧ y = 0 ∧ n = 0) := by omega
       have e2 : (decide (op = 10) && !el.isEmpty) = false := by
        rw [Bool.and_eq_false_iff,decide_eq_false_iff_not]
        by_cases ho : op = 10
        ·right; cases el with
         | nil => rfl
         | cons a b => exact absurd (.inr (.inr (.inr (.inr ⟨ho,by simp⟩)))) hb
        ·exact .inl ho
       simp [e1,e2]
      rw [hok]
      generalize scL ts (4 - (d : Int)) (c + 1) th = r1 at h1
      obtain ⟨b1,c1⟩ := r1
      dsimp only at h1 ⊢
      cases b1 with
      | true =>
       have h3 := h1.2.2.2.1.1 rfl
       have h4 := h1.2.2.2.2 rfl
       have h2 := scL_law ts el d c1 (by omega) (by omega) (by omega)
       simp only [if_true,h3.1,Bool.true_and]
       refine ⟨by omega,by omega,by omega,⟨fun q => ?_,fun q => ?_⟩,fun q => ?_⟩
       ·have := h2.2.2.2.1.1 q;exact ⟨this.1,by omega⟩
       ·exact h2.2.2.2.1.2 ⟨q.1,by omega⟩
       ·have := h2.2.2.2.2 q;omega
      | false =>
       simp only [Bool.false_eq_true,if_false,false_iff]
       refine ⟨by omega,by omega,by omega,?_,fun h => h.elim⟩
       rintro ⟨q1,q2⟩
       simp only [Bool.and_eq_true] at q1
       exact absurd (h1.2.2.2.1.2 ⟨q1.1,by omega⟩) (by simp)
theorem scL_law (ts:List Int):∀ (l:List Stmt) (d:Nat) (c:Int),d ≤ 4 → 0 ≤ c → c ≤ 30 → c ≤ (scL ts (4 - d) c l).2 ∧ (scL ts (4 - d) c l).2 ≤ c + cntL l ∧ (scL ts (4 - d) c l).2 ≤ 31 ∧
  ((scL ts (4 - d) c l).1 = true ↔ okL ts d l = true ∧ c + cntL l ≤ 30) ∧ ((scL ts (4 - d) c l).1 = true → (scL ts (4 - d) c l).2 = c + cntL l)
 | [],d,c,hd,hc0,hc => by simp [scL,okL,cntL]; omega
 | s :: l, d, c, hd, hc0, hc => by
  have h1 := scS_law ts s d c hd hc0 hc
  simp only [scL,okL,cntL]
  generalize scS ts (4 - (d : Int)) c s = r1 at h1
  obtain ⟨b1,c1⟩ := r1
  dsimp only at h1 ⊢
  cases b1 with
  | true =>
   have h3 := h1.2.2.2.1.1 rfl
   have h4 := h1.2.2.2.2 rfl
   have h2 := scL_law ts l d c1 (by omega) (by omega) (by omega)
   simp only [if_true,h3.1,Bool.true_and]
   refine ⟨by omega,by omega,by omega,⟨fun q => ?_,fun q => ?_⟩,fun q => ?_⟩
   ·have := h2.2.2.2.1.1 q;exact ⟨this.1,by omega⟩
   ·exact h2.2.2.2.1.2 ⟨q.1,by omega⟩
   ·have := h2.2.2.2.2 q;omega
  | false =>
   simp only [Bool.false_eq_true,if_false,false_iff]
   refine ⟨by omega,by omega,by omega,?_,fun h => h.elim⟩
   rintro ⟨q1,q2⟩
   simp only [Bool.and_eq_true] at q1
   exact absurd (h1.2.2.2.1.2 ⟨q1.1,by omega⟩) (by simp)
end
theorem scL_valid (p:Prg):(typesOk p.types && (scL p.types 0 0 p.body).1) = validF p:=by
 have h := (scL_law p.types p.body 4 0 (by omega) (by omega) (by omega)).2.2.2.1
 have e : ((4 : Int) - ((4 : Nat) : Int)) = 0 := by omega
 rw [e] at h
 unfold validF
 rw [Bool.and_assoc]
 congr 1
 rw [Bool.eq_iff_iff,h]
 simp only [Bool.and_eq_true,decide_eq_true_eq]
 constructor
 ·exact fun ⟨a,b⟩ => ⟨a,by omega⟩
 ·exact fun ⟨a,b⟩ => ⟨a,by omega⟩
theorem scL_stop {ts:List Int}{nest c:Int}{l:List Stmt}{k:Nat}(hk:k < l.length):scL ts nest c (l.drop k) = if (scS ts nest c l[k]!).1 = true then scL ts nest (scS ts nest c l[k]!).2 (l.drop (k + 1)) else (false,(scS ts nest c l[k]!).2):=by
 rw [drop_consB _ _ hk,scL]
theorem scL_bd (ts:List Int) (l:List Stmt) (nest c:Int) (h0:0 ≤ nest) (h1:nest ≤ 4) (h2:0 ≤ c) (h3:c ≤ 30):0 ≤ (scL ts nest c l).2 ∧ (scL ts nest c l).2 ≤ 31 ∧ ((scL ts nest c l).1 = true → (scL ts nest c l).2 ≤ 30):=by
 obtain ⟨k,hk⟩ : ∃ k : Nat,nest = 4 - (k : Int) := ⟨(4 - nest).toNat,by omega⟩
 have := scL_law ts l k c (by omega) h2 h3
 rw [← hk] at this
 refine ⟨by omega,by omega,fun h => ?_⟩
 have h4 := this.2.2.2.1.1 h
 have h5 := this.2.2.2.2 h
 omega
theorem scS_bd (ts:List Int) (s:Stmt) (nest c:Int) (h0:0 ≤ nest) (h1:nest ≤ 4) (h2:0 ≤ c) (h3:c ≤ 30):0 ≤ (scS ts nest c s).2 ∧ (scS ts nest c s).2 ≤ 31 ∧ ((scS ts nest c s).1 = true → (scS ts nest c s).2 ≤ 30):=by
 obtain ⟨k,hk⟩ : ∃ k : Nat,nest = 4 - (k : Int) := ⟨(4 - nest).toNat,by omega⟩
 have := scS_law ts s k c (by omega) h2 h3
 rw [← hk] at this
 refine ⟨by omega,by omega,fun h => ?_⟩
 have h4 := this.2.2.2.1.1 h
 have h5 := this.2.2.2.2 h
 omega
def selT (ks : List Nat) (ts : List (Nat × AV)) : List (Nat × AV) := ks.filterMap fun t => (lk ts t).map fun v => (t,v)
def selH (ks : List Nat) (hs : List (Nat × Option (List AV))) : List (Nat × Option (List AV)) := ks.map fun t => (t,lkH hs t)
theorem selT_sub {ts:List (Nat × AV)}:∀ (ks:List Nat),subT ts (selT ks ts)
 | [] => trivial
 | k :: ks => by
  simp only [selT,List.filterMap_cons]
  cases h : lk ts k with
  | none => exact selT_sub ks
  | some v => exact ⟨h,selT_sub ks⟩
theorem selH_sub {hs:List (Nat × Option (List AV))}:∀ (ks:List Nat),subH hs (selH ks hs)
 | [] => trivial
 | k :: ks => ⟨.inr rfl,selH_sub ks⟩
theorem subT_append {ts a b:List (Nat × AV)}(h1:subT ts a) (h2:subT ts b):subT ts (a ++ b):=by
 induction a with
 | nil => exact h2
 | cons x a ih => exact ⟨h1.1,ih h1.2⟩
theorem subH_append {ts a b:List (Nat × Option (List AV))}(h1:subH ts a) (h2:subH ts b):subH ts (a ++ b):=by
 induction a with
 | nil => exact h2
 | cons x a ih => exact ⟨h1.1,ih h1.2⟩
variable {P : Program} {N : Nat} {Q : Exit → AS → Prop}
theorem aw_loopK {σ:Type}{c:Code}{ts:List (Nat × AV)}{hs:List (Nat × Option (List AV))}{n:Nat}{z0:Lo}(ks:List Nat) (kt:List (Nat × AV)) (js:List Nat) (kh:List (Nat × Option (List AV)))
  (ot : σ → List (Nat × AV)) (oh : σ → List (Nat × Option (List AV))) (p : σ → Prop) (μ : σ → Nat) (i0 : σ) (h0 : p i0) (hk : selT ks ts = kt) (hj : selH js hs = kh)
  (h1 : subT ts (ot i0)) (h2 : subH hs (oh i0))
  (round : ∀ i,p i → AW P N c (thenQ (fun s' => ∃ j,p j ∧ μ j < μ i ∧ Le s' ⟨ot j ++ kt,oh j ++ kh,n,z0⟩) Q) ⟨ot i ++ kt,oh i ++ kh,n,z0⟩) :
  AW P N (.loop c) Q ⟨ts,hs,n,z0⟩ := by
 subst hk hj
 exact aw_loop p (fun i => ⟨ot i ++ selT ks ts,oh i ++ selH js hs,n,z0⟩) μ ⟨i0,h0,Le.lit (subT_append h1 (selT_sub ks)) (subH_append h2 (selH_sub js)) (Nat.le_refl _)⟩ round
section
variable {P : Program} {N : Nat} {all : Array Oper} {Q : Exit → AS → Prop} {m : Md} {rest : List Oper} {s : AS}
theorem rw_guardU {dst:Option Tmp}{op:Op}{ty:TypeId}{pos:String}{af:Array Edge}{j d:Nat}{want:Bool}(hj:(all[j]?).bind (·.dst) = some d) (hb:lk s.ts d = some (.v undef))
  (hdN : ∀ d,dst = some d → d < N)
  (h2 : RW P N all Q (m.add [.inl d] (wD dst)) rest (put s dst (.v undef))) : RW P N all Q m (⟨dst,op,ty,pos,af,some (j,want)⟩ :: rest) s := by
 have hyl : ∀ (C : Ctx) (ι : Pl) (T : Nat → Option AV) (H : Nat → Option (List AV)) (a : Act) (w : World), T d = lk s.ts d → TG C ι T H a w → yielded all a.tmps j = none := by
  intro C ι T H a w hT g
  obtain ⟨y,hy,hr⟩ := g.tm d _ (by rw [hT]; exact hb)
  simp only [Rd] at hr
  subst hr
  simp [yielded,hj,hy,undef]
 cases m with
 | txt =>
  rintro C a w hN ⟨h0,ι,g,gh⟩
  have hyl' := hyl C ι _ _ a w rfl g
  unfold wpList
  simp only [Region.wanted,hyl']
  rw [if_neg (by simp)]
  refine h2 C _ w hN ?_
  cases hd : dst with
  | none => exact ⟨h0,ι,g,gh⟩
  | some d' =>
   refine ⟨h0,ι,?_,gh⟩
   simp only [put]
   rw [lk_cons]
   exact g.put (hN.symm ▸ hdN d' hd) (by simp [Rd])
 | drw ks pend =>
  obtain ⟨As,S',n2,tr,hc,hn2,_,s',e1,e2,e3,hQ⟩ := h2
  refine ⟨⟨pend ++ [.inl d],wDv dst (.v undef),s.nid,s.nid⟩ :: As,S',n2,.cons ?_ rfl (Nat.le_refl _) ?_,?_,hn2,fun _ => ⟨_,_,rfl,fun r hr => List.mem_append_left _ hr⟩,s',e1,e2,?_,hQ⟩
  ·intro C ι F S a w hN hag hF g gh K Q' hK
   have hT : tOf S d = lk s.ts d := by rw [← tOf_sOf]; simp only [tOf,hag _ (List.mem_append_right _ (by simp : Sum.inl d ∈ [Sum.inl d]))]
   have hyl' := hyl C ι _ _ a w hT g
   rw [if_neg (by simp [Region.wanted,hyl'])]
   refine hK ι _ w ?_ ?_
   ·rw [hOf_put]; exact tOf_put g (fun x hx => hN.symm ▸ hdN x hx) (by simp [Rd])
   ·rw [hOf_put]; exact (gh.less (fun _ _ h => h) (fun j hj => hj.1)).1
  ·rw [sOf_put] at tr
   have hnid : (put s dst (.v undef)).nid = s.nid := by cases dst <;> rfl
   rw [hnid] at tr
   exact tr
  ·have hk : kOf ⟨pend ++ [.inl d], wDv dst (.v undef), s.nid, s.nid⟩ = (pend ++ [.inl d], wD dst) := by
    simp only [kOf,keys]
    congr 1
    cases dst <;> rfl
   rw [List.map_cons,hk]
   simpa using hc
  ·rw [e3]; cases dst <;> rfl
end
section
variable {P : Program} {N : Nat} {all : Array Oper} {Q : Exit → AS → Prop} {md : Md} {rest : List Oper} {ts : List (Nat × AV)} {hs : List (Nat × Option (List AV))} {n : Nat} {z0 : Lo} {ty : TypeId} {pos : String} {af : Array Edge}
theorem rx_guardU {dst:Nat}{op:Op}{j d:Nat}{want:Bool}{md':Md}[hmd:MdA md [.inl d] [.inl dst] md'] (hj:(all[j]?).bind (·.dst) = some d) (hb:lk ts d = some (.v undef)) (hN:Nat.blt dst N = true)
  (k : RW P N all Q md' rest ⟨(dst,.v undef) :: ts,hs,n,z0⟩) : RW P N all Q md (⟨some dst,op,ty,pos,af,some (j,want)⟩ :: rest) ⟨ts,hs,n,z0⟩ :=
 rw_guardU hj hb (fun d h => by cases h;exact ltb hN) (by rw [show wD (some dst) = [Sum.inl dst] from rfl,hmd.pf]; exact k)
end
section
variable {P : Program} {N : Nat} {all : Array Oper} {Q : Exit → AS → Prop} {md : Md} {rest : List Oper} {s : AS} {ty : TypeId} {pos : String} {af : Array Edge} {dst : Option Tmp} {op : Op}
theorem id_g {jw:Nat × Bool}(h:RW P N all Q md (⟨dst,op,ty,pos,af,some jw⟩ :: rest) s):RW P N all Q md (⟨dst,op,ty,pos,af,some jw⟩ :: rest) s := h
theorem id_rw {l:List Oper}(h:RW P N all Q md l s):RW P N all Q md l s := h
theorem id_aw {c:Code}(h:AW P N c Q s):AW P N c Q s := h
theorem id_bin {o1:BinOp}{o2:TypeId}{o3 o4:Operand}{o5:TypeId}(h:RW P N all Q md (⟨dst,.binOp o1 o2 o3 o4 o5,ty,pos,af,none⟩ :: rest) s):RW P N all Q md (⟨dst,.binOp o1 o2 o3 o4 o5,ty,pos,af,none⟩ :: rest) s := h
theorem id_load {o1:TypeId}{o2:Operand}(h:RW P N all Q md (⟨dst,.load o1 o2,ty,pos,af,none⟩ :: rest) s):RW P N all Q md (⟨dst,.load o1 o2,ty,pos,af,none⟩ :: rest) s := h
theorem id_bi {o1:Builtin}{o2:Array Operand}{o3:Array TypeId}(h:RW P N all Q md (⟨dst,.call ⟨.builtin o1,o2,o3⟩,ty,pos,af,none⟩ :: rest) s):RW P N all Q md (⟨dst,.call ⟨.builtin o1,o2,o3⟩,ty,pos,af,none⟩ :: rest) s := h
theorem id_conv {o1 o2:TypeId}{o3:Operand}(h:RW P N all Q md (⟨dst,.convert o1 o2 o3,ty,pos,af,none⟩ :: rest) s):RW P N all Q md (⟨dst,.convert o1 o2 o3,ty,pos,af,none⟩ :: rest) s := h
theorem id_idx {o1:TypeId}{o2 o3:Operand}(h:RW P N all Q md (⟨dst,.indexAddr o1 o2 o3,ty,pos,af,none⟩ :: rest) s):RW P N all Q md (⟨dst,.indexAddr o1 o2 o3,ty,pos,af,none⟩ :: rest) s := h
theorem id_pick {o1 o2 o3:Operand}(h:RW P N all Q md (⟨dst,.pick o1 o2 o3,ty,pos,af,none⟩ :: rest) s):RW P N all Q md (⟨dst,.pick o1 o2 o3,ty,pos,af,none⟩ :: rest) s := h
theorem id_bld {o1:TypeId}{o2:Array (Nat × Operand)}(h:RW P N all Q md (⟨dst,.build o1 o2,ty,pos,af,none⟩ :: rest) s):RW P N all Q md (⟨dst,.build o1 o2,ty,pos,af,none⟩ :: rest) s := h
theorem id_sli {o1:TypeId}{o2:Operand}{o3 o4 o5:Option Operand}(h:RW P N all Q md (⟨dst,.slice o1 o2 o3 o4 o5,ty,pos,af,none⟩ :: rest) s):RW P N all Q md (⟨dst,.slice o1 o2 o3 o4 o5,ty,pos,af,none⟩ :: rest) s := h
theorem id_ix {o1:TypeId}{o2 o3:Operand}(h:RW P N all Q md (⟨dst,.index o1 o2 o3,ty,pos,af,none⟩ :: rest) s):RW P N all Q md (⟨dst,.index o1 o2 o3,ty,pos,af,none⟩ :: rest) s := h
end
variable {P : Program} {N : Nat} {Q : Exit → AS → Prop} {all : Array Oper} {rest : List Oper} {ts : List (Nat × AV)} {hs : List (Nat × Option (List AV))} {n : Nat} {z0 : Lo} {md : Md}
variable {d : Nat} {ty : TypeId} {pos : String} {af : Array Edge}
section
def closOf : AV → Option (FuncId × List AV × List AV)
 | .clos (.func k) f c => some (k,f,c)
 | .v (.func (.func k) ⟨[]⟩ ⟨[]⟩) => some (k,[],[])
 | _ => none
theorem closOf_ok {w:World}{bad:Nat → Prop}{ι:Pl}{av:AV}{y:Value}{k:FuncId}{f c:List AV}(h:closOf av = some (k,f,c)) (hy:Rd w bad ι av y) :
  ∃ lf lc : List Value,y = .func (.func k) lf.toArray lc.toArray ∧ RdV w bad ι f lf ∧ RdV w bad ι c lc := by
 unfold closOf at h
 split at h
 ·cases h;simpa only [Rd] using hy
 ·cases h;simp only [Rd] at hy;exact ⟨[],[],hy,by simp [RdV],by simp [RdV]⟩
 ·cases h
theorem RdV_append {w:World}{bad:Nat → Prop}{ι:Pl}:∀ {a b:List AV}{la lb:List Value},RdV w bad ι a la → RdV w bad ι b lb → RdV w bad ι (a ++ b) (la ++ lb)
 | [],b,la,lb,h1,h2 => by simp only [RdV] at h1;subst h1;exact h2
 | x :: a, b, la, lb, h1, h2 => by
  simp only [RdV] at h1
  obtain ⟨y,l',rfl,h3,h4⟩ := h1
  simp only [List.cons_append,RdV]
  exact ⟨y,_,rfl,h3,RdV_append h4 h2⟩
theorem exec_callV {k:FuncId}{t:Nat}{args:Array Operand}{tys:Array TypeId}(hc:callable P k = true) (dst:Option Tmp) (a:Act) (w:World){lf lc:List Value}(hy:a.eval (.tmp t) = .func (.func k) lf.toArray lc.toArray) :
  (execOp a.eval ⟨dst,.call ⟨.value (.tmp t),args,tys⟩,ty,pos,af,none⟩).run P w = .ok (.enter k (lf ++ args.toList.map a.eval ++ lc).toArray) w := by
 simp only [execOp,Sem.run_bind,resolve,hy,Deferred.ofValue,Sem.run_pure,Result.andThen_ok,invoke,run_call hc]
 congr 2
 apply Array.ext'
 simp
theorem rw_callC {k:FuncId}{t:Nat}{args:Array Operand}{tys:Array TypeId}{avs f c:List AV}{fv:AV}{r:AV}(hc:callable P k = true) (hx:lk ts t = some fv) (hcl:closOf fv = some (k,f,c)) (ha:evL (lk ts) args.toList = some avs)
  (h : PC P k (f ++ avs ++ c) (fun x => x = r)) (hp : pursB (f ++ avs ++ c) = true) (hN : d < N)
  (kk : RW P N all Q (md.add (rO (.tmp t) ++ rOs args.toList) [.inl d]) rest ⟨(d,r) :: ts,hs,n,z0⟩) : RW P N all Q md (⟨some d,.call ⟨.value (.tmp t),args,tys⟩,ty,pos,af,none⟩ :: rest) ⟨ts,hs,n,z0⟩ := by
 refine rw_step (rs := rO (.tmp t) ++ rOs args.toList) (ws := []) (n' := n) (out := r) rfl (Nat.le_refl _) (.inl rfl) (fun C ι F T H a w K Q' hCN ag hF g gh hK => ?_) (fun x hx => by cases hx;exact hN) kk
 obtain ⟨lf,lc,hy,h1,h2⟩ := closOf_ok hcl (ev_ok g (x := .tmp t) (ag.l.ev.trans hx))
 simp only [Oper.wp,exec_callV hc _ a w hy,Oper.upon]
 refine (call_pure h hp gh (RdV_append (RdV_append h1 (evL_ok g (ag.r.evL.trans ha))) h2)).mono ?_
 rintro e w' ⟨v,r',rfl,h2,h3,h4,h5,h6⟩
 subst h2
 exact hK ι w' v (g.carry h5) (h4.less (fun _ _ h => h) (fun j hj => hj.1)).1 h6
theorem rx_callC {k:FuncId}{t:Nat}{args:Array Operand}{tys:Array TypeId}{avs f c:List AV}{fv:AV}{r:AV}(hx:lk ts t = some fv) (hcl:closOf fv = some (k,f,c)) (hc:CaT P k) (ha:evL (lk ts) args.toList = some avs)
  (h : PC P k (f ++ avs ++ c) (fun x => x = r)) (hp : pursB (f ++ avs ++ c) = true) (hN : Nat.blt d N = true) {md' : Md} [hmd : MdA md (rO (.tmp t) ++ rOs args.toList) [.inl d] md']
  (kk : RW P N all Q md' rest ⟨(d,r) :: ts,hs,n,z0⟩) : RW P N all Q md (⟨some d,.call ⟨.value (.tmp t),args,tys⟩,ty,pos,af,none⟩ :: rest) ⟨ts,hs,n,z0⟩ :=
 rw_callC hc.pf hx hcl ha h hp (ltb hN) (by rw [hmd.pf]; exact kk)
theorem rx_makeFunc {fn:Go.Fn}{fs cs:Array Operand}{f c:List AV}(hf:evL (lk ts) fs.toList = some f) (hc:evL (lk ts) cs.toList = some c) (hN:Nat.blt d N = true){md':Md}[hmd:MdA md (rOs fs.toList ++ rOs cs.toList) [.inl d] md']
  (kk : RW P N all Q md' rest ⟨(d,.clos fn f c) :: ts,hs,n,z0⟩) : RW P N all Q md (⟨some d,.makeFunc fn fs cs,ty,pos,af,none⟩ :: rest) ⟨ts,hs,n,z0⟩ := by
 refine rw_pu (out := .clos fn f c) (rs := rOs fs.toList ++ rOs cs.toList) rfl rfl (ltb hN) (fun C ι F T H a w ag g gh => ?_) (by rw [hmd.pf]; exact kk)
 refine ⟨.func fn (fs.map a.eval) (cs.map a.eval),by simp [execOp,Instr.makeFunc],?_⟩
 simp only [Rd]
 exact ⟨fs.toList.map a.eval,cs.toList.map a.eval,by rw [← Array.toList_map,← Array.toList_map,Array.toArray_toList,Array.toArray_toList],evL_ok g (ag.l.evL.trans hf),evL_ok g (ag.r.evL.trans hc)⟩
end
class Sm (n : Nat) : Prop where pf : n < 2 ^ 62
def anl (a b : Nat) : Nat := a ^^^ (a &&& b)
theorem testBit_anl (a b i:Nat):(anl a b).testBit i = (a.testBit i && !b.testBit i):=by
 simp only [anl,Nat.testBit_xor,Nat.testBit_and]; cases a.testBit i <;> cases b.testBit i <;> rfl
instance (a b : Nat) [h : Sm a] [h2 : Sm b] : Sm (a ||| b):=⟨Nat.or_lt_two_pow h.pf h2.pf⟩
instance (a b : Nat) [h : Sm a] : Sm (a &&& b):=⟨Nat.lt_of_le_of_lt Nat.and_le_left h.pf⟩
instance (a b : Nat) [h : Sm a] : Sm (anl a b):=⟨Nat.xor_lt_two_pow h.pf (Nat.lt_of_le_of_lt Nat.and_le_left h.pf)⟩
instance (a b : Nat) [h : Sm a] : Sm (a >>> b):=⟨Nat.lt_of_le_of_lt (by rw [Nat.shiftRight_eq_div_pow]; exact Nat.div_le_self _ _) h.pf⟩
instance : Sm 0:=⟨by decide⟩
instance : Sm 1:=⟨by decide⟩
theorem Sm.pow {k:Nat}(h:k < 62):Sm (2 ^ k) := ⟨Nat.pow_lt_pow_right (by decide) h⟩
class K6 (k : IntKind) : Prop where pf : k = .i64 ∨ k = .u64
instance : K6 .i64:=⟨.inl rfl⟩
instance : K6 .u64:=⟨.inr rfl⟩
theorem wrap_sm {k:IntKind}[hk:K6 k] {a:Nat}(h:a < 2 ^ 62):k.wrap (a:Int) = (a:Int):=by
 rcases hk.pf with rfl|rfl
 ·exact wrap_nat (by omega)
 ·simp only [IntKind.wrap]
  first
  | (simp [IntKind.bits,IntKind.signed]; omega)
  | omega
theorem bits6 {k:IntKind}[hk:K6 k]:k.bits = 64 := by rcases hk.pf with rfl | rfl <;> rfl
theorem ofInt_sm (a:Nat) (h:a < 2 ^ 62):BitVec.ofInt 64 (a:Int) = BitVec.ofNat 64 a := ofInt_nat (a:Int) ⟨by omega,by omega⟩
theorem bv_toNat (a:Nat) (h:a < 2 ^ 62):(BitVec.ofNat 64 a).toNat = a := by rw [BitVec.toNat_ofNat,Nat.mod_eq_of_lt (by omega)]
theorem ibin_or {k:IntKind}[hk:K6 k] (a b:Nat) [ha:Sm a] [hb:Sm b]:ibin .or k a b = some (.int k ((a ||| b:Nat):Int)):=by
 simp only [ibin]; rw [bits6,ofInt_sm a ha.pf,ofInt_sm b hb.pf,BitVec.toNat_or,bv_toNat a ha.pf,bv_toNat b hb.pf,wrap_sm (Nat.or_lt_two_pow ha.pf hb.pf)]
theorem ibin_and {k:IntKind}[hk:K6 k] (a b:Nat) [ha:Sm a] [hb:Sm b]:ibin .and k a b = some (.int k ((a &&& b:Nat):Int)):=by
 simp only [ibin]; rw [bits6,ofInt_sm a ha.pf,ofInt_sm b hb.pf,BitVec.toNat_and,bv_toNat a ha.pf,bv_toNat b hb.pf,wrap_sm (Nat.and_lt_two_pow _ hb.pf)]
theorem ibin_anl {k:IntKind}[hk:K6 k] (a b:Nat) [ha:Sm a] [hb:Sm b]:ibin .andNot k a b = some (.int k ((anl a b:Nat):Int)):=by
 simp only [ibin]
 have e : (BitVec.ofInt 64 (a : Int) &&& ~~~ BitVec.ofInt 64 (b : Int)).toNat = anl a b := by
  rw [ofInt_sm a ha.pf,ofInt_sm b hb.pf]
  apply Nat.eq_of_testBit_eq
  intro i
  rw [BitVec.toNat_and,Nat.testBit_and,testBit_anl,bv_toNat a ha.pf]
  cases h : a.testBit i with
  | false => simp
  | true =>
   have hi : i < 64 := by
    rcases Nat.lt_or_ge i 62 with h1|h1
    ·omega
    ·have := Nat.testBit_lt_two_pow (Nat.lt_of_lt_of_le ha.pf (Nat.pow_le_pow_right (by decide) h1));rw [h] at this;cases this
   rw [← BitVec.getLsbD,BitVec.getLsbD_not,BitVec.getLsbD_ofNat]
   simp [hi]
 rw [bits6,e,wrap_sm (inferInstance : Sm (anl a b)).pf]
theorem ibin_shl1 {k:IntKind}[hk:K6 k] (m:Int) (h:0 ≤ m ∧ m < 62):ibin .shl k 1 m = some (.int k ((2 ^ m.toNat:Nat):Int)):=by
 obtain ⟨j,rfl⟩ := Int.eq_ofNat_of_zero_le h.1
 simp only [ibin]
 rw [if_neg (by omega),bits6,Int.toNat_natCast,Nat.min_eq_left (by omega),Int.one_mul]
 rw [show ((2 : Int) ^ j) = ((2 ^ j : Nat) : Int) by simp,wrap_sm (Sm.pow (by omega)).pf]
theorem ibin_shr {k:IntKind}[hk:K6 k] (a:Nat) [ha:Sm a] (m:Int) (h:0 ≤ m ∧ m < 64):ibin .shr k a m = some (.int k ((a >>> m.toNat:Nat):Int)):=by
 obtain ⟨j,rfl⟩ := Int.eq_ofNat_of_zero_le h.1
 simp only [ibin]
 rw [if_neg (by omega),bits6,Int.toNat_natCast,Nat.min_eq_left (by omega)]
 congr 2
 rw [Nat.shiftRight_eq_div_pow,Int.fdiv_eq_ediv_of_nonneg _ (by exact Int.le_of_lt (Int.pow_pos (by decide)))]
 simp
section
theorem rx_orN {k:IntKind}{t t':TypeId}{x y:Operand}{a b:Nat}(hx:ev (lk ts) x = some (.v (.int k (a:Int)))) (hy:ev (lk ts) y = some (.v (.int k (b:Int)))) (hk:K6 k) (ha:Sm a) (hb:Sm b)
  (hN : Nat.blt d N = true) {md' : Md} [hmd : MdA md (rO x ++ rO y) [.inl d] md'] (kk : RW P N all Q md' rest ⟨(d,.v (.int k ((a ||| b : Nat) : Int))) :: ts,hs,n,z0⟩) : RW P N all Q md (⟨some d,.binOp .or t x y t',ty,pos,af,none⟩ :: rest) ⟨ts,hs,n,z0⟩ :=
 rw_ibin hx hy (.inl rfl) (ibin_or a b) (ltb hN) (by rw [hmd.pf]; exact kk)
theorem rx_andN {k:IntKind}{t t':TypeId}{x y:Operand}{a b:Nat}(hx:ev (lk ts) x = some (.v (.int k (a:Int)))) (hy:ev (lk ts) y = some (.v (.int k (b:Int)))) (hk:K6 k) (ha:Sm a) (hb:Sm b)
  (hN : Nat.blt d N = true) {md' : Md} [hmd : MdA md (rO x ++ rO y) [.inl d] md'] (kk : RW P N all Q md' rest ⟨(d,.v (.int k ((a &&& b : Nat) : Int))) :: ts,hs,n,z0⟩) : RW P N all Q md (⟨some d,.binOp .and t x y t',ty,pos,af,none⟩ :: rest) ⟨ts,hs,n,z0⟩ :=
 rw_ibin hx hy (.inl rfl) (ibin_and a b) (ltb hN) (by rw [hmd.pf]; exact kk)
theorem rx_anlN {k:IntKind}{t t':TypeId}{x y:Operand}{a b:Nat}(hx:ev (lk ts) x = some (.v (.int k (a:Int)))) (hy:ev (lk ts) y = some (.v (.int k (b:Int)))) (hk:K6 k) (ha:Sm a) (hb:Sm b)
  (hN : Nat.blt d N = true) {md' : Md} [hmd : MdA md (rO x ++ rO y) [.inl d] md'] (kk : RW P N all Q md' rest ⟨(d,.v (.int k ((anl a b : Nat) : Int))) :: ts,hs,n,z0⟩) : RW P N all Q md (⟨some d,.binOp .andNot t x y t',ty,pos,af,none⟩ :: rest) ⟨ts,hs,n,z0⟩ :=
 rw_ibin hx hy (.inl rfl) (ibin_anl a b) (ltb hN) (by rw [hmd.pf]; exact kk)
theorem rx_shl1 {k k':IntKind}{t t':TypeId}{x y:Operand}{m:Int}(hx:ev (lk ts) x = some (.v (.int k 1))) (hy:ev (lk ts) y = some (.v (.int k' m))) (hk:K6 k) (h:0 ≤ m ∧ m < 62)
  (hN : Nat.blt d N = true) {md' : Md} [hmd : MdA md (rO x ++ rO y) [.inl d] md'] (kk : Sm (2 ^ m.toNat) → RW P N all Q md' rest ⟨(d,.v (.int k ((2 ^ m.toNat : Nat) : Int))) :: ts,hs,n,z0⟩) : RW P N all Q md (⟨some d,.binOp .shl t x y t',ty,pos,af,none⟩ :: rest) ⟨ts,hs,n,z0⟩ :=
 rw_ibin hx hy (.inr (.inl rfl)) (ibin_shl1 m h) (ltb hN) (by rw [hmd.pf]; exact kk (Sm.pow (by omega)))
theorem rx_shrN {k k':IntKind}{t t':TypeId}{x y:Operand}{a:Nat}{m:Int}(hx:ev (lk ts) x = some (.v (.int k (a:Int)))) (hy:ev (lk ts) y = some (.v (.int k' m))) (hk:K6 k) (ha:Sm a) (h:0 ≤ m ∧ m < 64)
  (hN : Nat.blt d N = true) {md' : Md} [hmd : MdA md (rO x ++ rO y) [.inl d] md'] (kk : RW P N all Q md' rest ⟨(d,.v (.int k ((a >>> m.toNat : Nat) : Int))) :: ts,hs,n,z0⟩) : RW P N all Q md (⟨some d,.binOp .shr t x y t',ty,pos,af,none⟩ :: rest) ⟨ts,hs,n,z0⟩ :=
 rw_ibin hx hy (.inr (.inr rfl)) (ibin_shr a m h) (ltb hN) (by rw [hmd.pf]; exact kk)
end
mutual
def npS : Stmt → Nat
 | .mk op _ _ _ th el => if op = 9 then 2 + npL th + npL el else if op = 10 then 2 + npL th else 1
def npL : List Stmt → Nat
 | [] => 0
 | s :: l => npS s + npL l
end
mutual
def ptS (b : Nat) : Stmt → List Pnt
 | .mk op x y n th el =>
  if op = 9 then [⟨9,0,0,0,[(b : Int) + 1,(b : Int) + 1 + npL th + 1]⟩] ++ ptL (b + 1) th ++ [⟨10,0,0,1,[(b : Int) + 2 + npL th + npL el]⟩] ++ ptL (b + 2 + npL th) el
  else if op = 10 then [⟨10,0,0,0,[(b : Int) + 1,(b : Int) + 2 + npL th]⟩] ++ ptL (b + 1) th ++ [⟨10,0,0,1,[(b : Int)]⟩]
  else [⟨op,x,y,n,[(b : Int) + 1]⟩]
def ptL (b : Nat) : List Stmt → List Pnt
 | [] => []
 | s :: l => ptS b s ++ ptL (b + npS s) l
end
mutual
theorem ptS_len:∀ (s:Stmt) (b:Nat),(ptS b s).length = npS s
 | .mk op x y n th el, b => by
  have h1 := ptL_len th (b + 1)
  have h2 := ptL_len el (b + 2 + npL th)
  simp only [ptS,npS]
  split
  ·simp [h1,h2]; omega
  ·split
   ·simp [h1]; omega
   ·simp
theorem ptL_len:∀ (l:List Stmt) (b:Nat),(ptL b l).length = npL l
 | [],b => by simp [ptL,npL]
 | s :: l,b => by simp only [ptL,npL,List.length_append,ptS_len s b,ptL_len l (b + npS s)]
end
mutual
theorem npS_le:∀ (s:Stmt),npS s ≤ 2 * cntS s
 | .mk op x y n th el => by
  have h1 := npL_le th
  have h2 := npL_le el
  simp only [npS,cntS]; split
  ·omega
  ·split <;> omega
theorem npL_le:∀ (l:List Stmt),npL l ≤ 2 * cntL l
 | [] => by simp [npL,cntL]
 | s :: l => by have h1 := npS_le s;have h2 := npL_le l;simp only [npL,cntL]; omega
end
theorem npL_append:∀ a b,npL (a ++ b) = npL a + npL b
 | [],b => by simp [npL]
 | s :: a,b => by simp only [List.cons_append,npL,npL_append a b]; omega
theorem ptL_append:∀ (a b:List Stmt) (k:Nat),ptL k (a ++ b) = ptL k a ++ ptL (k + npL a) b
 | [],b,k => by simp [ptL,npL]
 | s :: a,b,k => by simp only [List.cons_append,ptL,npL,ptL_append a b,List.append_assoc,Nat.add_assoc]
theorem ptL_take (l:List Stmt) (b k:Nat) (hk:k < l.length):ptL b (l.take (k + 1)) = ptL b (l.take k) ++ ptS (b + npL (l.take k)) l[k]!:=by
 rw [take_succB _ _ hk,ptL_append]; simp [ptL]
theorem npL_take (l:List Stmt) (k:Nat) (hk:k < l.length):npL (l.take (k + 1)) = npL (l.take k) + npS l[k]!:=by
 rw [take_succB _ _ hk,npL_append]; simp [npL]
theorem npL_take_le (l:List Stmt) (k:Nat):npL (l.take k) ≤ npL l:=by
 conv => rhs;rw [← List.take_append_drop k l]
 rw [npL_append]; omega
theorem npS_def (s:Stmt):npS s = if s.op = 9 then 2 + npL s.th + npL s.el else if s.op = 10 then 2 + npL s.th else 1:=by
 cases s;simp only [npS,Stmt.op,Stmt.th,Stmt.el]; rfl
theorem ptS_def (b:Nat) (s:Stmt):ptS b s = if s.op = 9 then [⟨9,0,0,0,[(b:Int) + 1,(b:Int) + 1 + npL s.th + 1]⟩] ++ ptL (b + 1) s.th ++ [⟨10,0,0,1,[(b:Int) + 2 + npL s.th + npL s.el]⟩] ++ ptL (b + 2 + npL s.th) s.el
  else if s.op = 10 then [⟨10,0,0,0,[(b : Int) + 1,(b : Int) + 2 + npL s.th]⟩] ++ ptL (b + 1) s.th ++ [⟨10,0,0,1,[(b : Int)]⟩]
  else [⟨s.op,s.x,s.y,s.n,[(b : Int) + 1]⟩] := by
 cases s;simp only [ptS,Stmt.op,Stmt.th,Stmt.el,Stmt.x,Stmt.y,Stmt.n]; rfl
def ptsF (p : Prg) : List Pnt := ptL 0 p.body ++ [⟨11,0,0,0,[]⟩]
theorem ptsF_len (p:Prg):(ptsF p).length = npL p.body + 1 := by simp [ptsF,ptL_len]
theorem app_flat {α:Type}{f:α → List AV}{e:Nat}[h:FlT f e] {xs:List α}{m:Nat}{new:List AV}{y:α}(hm:m = xs.length) (hn:new = f y):((flat f xs).drop 0).take (m * e) ++ new = flat f (xs ++ [y]):=by
 subst hm hn
 rw [List.drop_zero,List.take_of_length_le (by rw [flat_length f (e := e)]; exact Nat.le_refl _),← flat_append,flat_one]
theorem app_pnt0 {xs:List Pnt}{m:Nat}{a b c d:Int}(hm:m = xs.length):((flat cPnt xs).drop 0).take (m * 5) ++ [iv a,iv b,iv c,iv d,.imm 0 []] = flat cPnt (xs ++ [⟨a,b,c,d,[]⟩]) := app_flat hm rfl
theorem app_pnt1 {xs:List Pnt}{m:Nat}{a b c d e:Int}(hm:m = xs.length):((flat cPnt xs).drop 0).take (m * 5) ++ [iv a,iv b,iv c,iv d,.imm 1 [iv e]] = flat cPnt (xs ++ [⟨a,b,c,d,[e]⟩]) := app_flat hm rfl
theorem app_int {xs:List Int}{m:Nat}{a:Int}(hm:m = xs.length):((flat cI xs).drop 0).take (m * 1) ++ [iv a] = flat cI (xs ++ [a]) := app_flat hm rfl
theorem spl_mid (A B C new:List AV) (j:Nat) (hj:j + new.length ≤ B.length):spl (A ++ (B ++ C)) (A.length + j) new = A ++ (spl B j new ++ C):=by
 unfold spl
 rw [List.take_length_add_append,Nat.add_assoc,List.drop_length_add_append,List.take_append_of_le_length (by omega),List.drop_append_of_le_length hj]
 simp only [List.append_assoc]
theorem flat_split {α:Type}[Inhabited α] {f:α → List AV}{e:Nat}[h:FlT f e] {xs:List α}{k:Nat}(hk:k < xs.length):flat f xs = flat f (xs.take k) ++ (f xs[k]! ++ flat f (xs.drop (k + 1))):=by
 rw [← flat_drop f (e := e) xs k hk,← flat_take f (e := e),List.take_append_drop]
theorem st_flat {α:Type}[Inhabited α] {f:α → List AV}{e:Nat}[h:FlT f e] {xs:List α}{k j:Nat}{new:List AV}{y:α}(hk:k < xs.length) (hj:j + new.length ≤ e) (hy:spl (f xs[k]!) j new = f y):spl (flat f xs) (0 + k * e + j) new = flat f (xs.set k y):=by
 have h3 : (flat f (xs.take k)).length = k * e := by rw [flat_length f (e := e),List.length_take]; congr 1;omega
 rw [flat_split (e := e) hk,Nat.zero_add,← h3,spl_mid _ _ _ _ _ (by rw [h.pf]; exact hj),hy,List.set_eq_take_append_cons_drop,if_pos hk,← flat_append]
 simp only [flat,List.flatMap_cons]
theorem st_flat0 {α:Type}[Inhabited α] {f:α → List AV}{e:Nat}[h:FlT f e] {xs:List α}{k:Nat}{new:List AV}{y:α}(hk:k < xs.length) (hy:new = f y):spl (flat f xs) (0 + k * e) new = flat f (xs.set k y):=by
 subst hy
 rw [Nat.zero_add]; exact flat_spl f xs k y hk
theorem st_next1 {xs:List Pnt}{k:Nat}{a:Int}(hk:k < xs.length):spl (flat cPnt xs) (0 + k * 5 + 4) [.imm 1 [iv a]] = flat cPnt (xs.set k { xs[k]! with next := [a] }) := st_flat hk (by simp) rfl
theorem st_next2 {xs:List Pnt}{k:Nat}{a b:Int}(hk:k < xs.length):spl (flat cPnt xs) (0 + k * 5 + 4) [.imm 2 [iv a,iv b]] = flat cPnt (xs.set k { xs[k]! with next := [a,b] }) := st_flat hk (by simp) rfl
theorem st_bool {xs:List Bool}{k:Nat}{a:Bool}(hk:k < xs.length):spl (flat cB xs) (0 + k * 1) [bv a] = flat cB (xs.set k a) := st_flat0 hk rfl
theorem npS_9 (s:Stmt):s.op = 9 → npS s = 2 + npL s.th + npL s.el := by intro h;rw [npS_def,if_pos h]
theorem npS_10 (s:Stmt):s.op = 10 → npS s = 2 + npL s.th := by intro h;rw [npS_def,if_neg (by omega),if_pos h]
theorem npS_1 (s:Stmt):¬ s.op = 9 → ¬ s.op = 10 → npS s = 1 := by intro h h2;rw [npS_def,if_neg h,if_neg h2]
theorem npL_at (l:List Stmt) (k:Nat):k < l.length → npL (l.take k) + npS l[k]! ≤ npL l:=by
 intro h;have := npL_take_le l (k + 1);rw [npL_take l k h] at this;exact this
theorem set_mid {α:Type}(A:List α) (x y:α) (B:List α):(A ++ x :: B).set A.length y = A ++ y :: B:=by
 rw [List.set_append_right _ _ (Nat.le_refl _),Nat.sub_self,List.set_cons_zero]
theorem get_mid {α:Type}[Inhabited α] (A:List α) (x:α) (B:List α):(A ++ x :: B)[A.length]! = x:=by
 rw [getB _ _ (by simp),List.getElem_append_right (Nat.le_refl _)]; simp
theorem if_get1 {xs T E:List Pnt}{p q:Pnt}{m:Nat}(hm:m = xs.length):(xs ++ [p] ++ T ++ [q] ++ E)[m]! = p:=by
 subst hm;simp only [List.append_assoc,List.singleton_append,List.cons_append,List.nil_append]; exact get_mid _ _ _
theorem if_set1 {xs T E:List Pnt}{p q p':Pnt}{m:Nat}(hm:m = xs.length):(xs ++ [p] ++ T ++ [q] ++ E).set m p' = xs ++ [p'] ++ T ++ [q] ++ E:=by
 subst hm;simp only [List.append_assoc,List.singleton_append,List.cons_append,List.nil_append]; exact set_mid _ _ _ _
theorem if_get2 {xs T E:List Pnt}{p q:Pnt}{j:Nat}(hj:j = xs.length + 1 + T.length):(xs ++ [p] ++ T ++ [q] ++ E)[j]! = q:=by
 have h : j = (xs ++ [p] ++ T).length := by simp [hj]; omega
 subst h
 rw [show xs ++ [p] ++ T ++ [q] ++ E = (xs ++ [p] ++ T) ++ q :: E by simp]; exact get_mid _ _ _
theorem if_set2 {xs T E:List Pnt}{p q q':Pnt}{j:Nat}(hj:j = xs.length + 1 + T.length):(xs ++ [p] ++ T ++ [q] ++ E).set j q' = xs ++ [p] ++ T ++ [q'] ++ E:=by
 have h : j = (xs ++ [p] ++ T).length := by simp [hj]; omega
 subst h
 rw [show xs ++ [p] ++ T ++ [q] ++ E = (xs ++ [p] ++ T) ++ q :: E by simp,set_mid]; simp
theorem lp_get {xs T:List Pnt}{p q:Pnt}{m:Nat}(hm:m = xs.length):(xs ++ [p] ++ T ++ [q])[m]! = p:=by
 subst hm;simp only [List.append_assoc,List.singleton_append,List.cons_append,List.nil_append]; exact get_mid _ _ _
theorem lp_set {xs T:List Pnt}{p q p':Pnt}{m:Nat}(hm:m = xs.length):(xs ++ [p] ++ T ++ [q]).set m p' = xs ++ [p'] ++ T ++ [q]:=by
 subst hm;simp only [List.append_assoc,List.singleton_append,List.cons_append,List.nil_append]; exact set_mid _ _ _ _
structure WG (ts : List Int) (pts : List Pnt) : Prop where
 tl : ts.length ≤ 6
 ty : ∀ v,v < ts.length → 1 ≤ ts[v]! ∧ ts[v]! ≤ 4
 pl : pts.length ≤ 61
 p0 : 0 < pts.length
 nx : ∀ i,i < pts.length → ∀ k ∈ pts[i]!.next,0 ≤ k ∧ k < pts.length
 nl : ∀ i,i < pts.length → pts[i]!.next.length ≤ 2
 op : ∀ i,i < pts.length → 1 ≤ pts[i]!.op ∧ pts[i]!.op ≤ 11
 x : ∀ i,i < pts.length → 0 ≤ pts[i]!.x ∧ (pts[i]!.op ≤ 8 → pts[i]!.x < ts.length)
 y : ∀ i,i < pts.length → 0 ≤ pts[i]!.y ∧ (3 ≤ pts[i]!.op → pts[i]!.op ≤ 7 → pts[i]!.y < ts.length)
def PtOk (nv b e : Nat) (x : Pnt) : Prop := (∀ k ∈ x.next,0 ≤ k ∧ k < (e : Int)) ∧ x.next.length ≤ 2 ∧ 1 ≤ x.op ∧ x.op ≤ 11 ∧ 0 ≤ x.x ∧ (x.op ≤ 8 → x.x < (nv : Int)) ∧ 0 ≤ x.y ∧ (3 ≤ x.op → x.op ≤ 7 → x.y < (nv : Int))
theorem simpleF_ok {ts:List Int}(ht:typesOk ts = true){s:Stmt}(h:simpleF ts s = true):1 ≤ s.op ∧ s.op ≤ 8 ∧ 0 ≤ s.x ∧ s.x < ts.length ∧ 0 ≤ s.y ∧ (3 ≤ s.op → s.op ≤ 7 → s.y < ts.length):=by
 have hx := typeAt_pos ht s.x
 have hy := typeAt_pos ht s.y
 have bx := typeAt_bd ht s.x
 have by' := typeAt_bd ht s.y
 unfold simpleF at h
 dsimp only at h
 repeat' split at h
 all_goals first
  | (simp only [decide_eq_true_eq] at h;omega)
  | (cases h;done)
mutual
theorem ptS_ok {ts:List Int}(ht:typesOk ts = true):∀ (s:Stmt) (d b e:Nat),okS ts d s = true → b + npS s < e → ∀ x ∈ ptS b s,PtOk ts.length b e x
 | .mk op x y n th el, d, b, e, h, hb => by
  simp only [okS] at h
  split at h
  ·rename_i hop
   simp only [Bool.and_eq_true] at h
   have hs := simpleF_ok ht h.2
   simp only [Stmt.op,Stmt.x,Stmt.y] at hs
   simp only [npS,hop.1,hop.2,if_false] at hb
   simp only [ptS,hop.1,hop.2,if_false,List.mem_singleton]
   rintro z rfl
   refine ⟨?_,by simp,hs.1,by show op ≤ 11;omega,hs.2.2.1,fun _ => hs.2.2.2.1,hs.2.2.2.2.1,hs.2.2.2.2.2⟩
   simp only [List.mem_singleton]; rintro k rfl;omega
  ·rename_i hop
   cases d with
   | zero => cases h
   | succ d =>
    simp only [Bool.and_eq_true,decide_eq_true_eq] at h
    obtain ⟨⟨⟨_,_⟩,h1⟩,h2⟩ := h
    by_cases h9 : op = 9
    ·subst h9
     simp only [npS,if_true] at hb
     simp only [ptS,if_true,List.mem_append,List.mem_singleton]
     rintro z (((rfl|hz)|rfl)|hz)
     ·refine ⟨?_, by simp, by simp, by simp, by simp, by simp, by simp, by simp⟩
      simp only [List.mem_cons,List.not_mem_nil,or_false]; rintro k (rfl|rfl) <;> omega
     ·exact ptL_ok ht th d (b + 1) e h1 (by omega) z hz
     ·refine ⟨?_, by simp, by simp, by simp, by simp, by simp, by simp, by simp⟩
      simp only [List.mem_singleton]; rintro k rfl;omega
     ·exact ptL_ok ht el d (b + 2 + npL th) e h2 (by omega) z hz
    ·have h10 : op = 10 := by omega
     subst h10
     simp only [npS,if_true,show ((10 : Int) = 9) = False by simp,if_false] at hb
     simp only [ptS,if_true,show ((10 : Int) = 9) = False by simp,if_false,List.mem_append,List.mem_singleton]
     rintro z ((rfl|hz)|rfl)
     ·refine ⟨?_, by simp, by simp, by simp, by simp, by simp, by simp, by simp⟩
      simp only [List.mem_cons,List.not_mem_nil,or_false]; rintro k (rfl|rfl) <;> omega
     ·exact ptL_ok ht th d (b + 1) e h1 (by omega) z hz
     ·refine ⟨?_, by simp, by simp, by simp, by simp, by simp, by simp, by simp⟩
      simp only [List.mem_singleton]; rintro k rfl;omega
theorem ptL_ok {ts:List Int}(ht:typesOk ts = true):∀ (l:List Stmt) (d b e:Nat),okL ts d l = true → b + npL l < e → ∀ x ∈ ptL b l,PtOk ts.length b e x
 | [],d,b,e,h,hb => by simp [ptL]
 | s :: l, d, b, e, h, hb => by
  simp only [okL,Bool.and_eq_true] at h
  simp only [npL] at hb
  simp only [ptL,List.mem_append]
  rintro x (hx|hx)
  ·exact ptS_ok ht s d b e h.1 (by omega) x hx
  ·exact ptL_ok ht l d (b + npS s) e h.2 (by omega) x hx
end
theorem WG.of_valid {p:Prg}(h:validF p = true):WG p.types (ptsF p):=by
 unfold validF at h
 simp only [Bool.and_eq_true,decide_eq_true_eq] at h
 obtain ⟨⟨ht,hl⟩,hc⟩ := h
 have hn := npL_le p.body
 have hlen := ptsF_len p
 have key : ∀ i, i < (ptsF p).length → PtOk p.types.length 0 (ptsF p).length (ptsF p)[i]! := by
  intro i hi
  have hm := getB_mem _ i hi
  unfold ptsF at hm
  rw [List.mem_append,List.mem_singleton] at hm
  rcases hm with hm|hm
  ·exact ptL_ok ht p.body 4 0 _ hl (by omega) _ hm
  ·unfold ptsF;rw [hm]; exact ⟨by simp,by simp,by simp,by simp,by simp,by simp,by simp,by simp⟩
 exact ⟨typesOk_len ht, typesOk_at ht, by omega, by omega, fun i hi => (key i hi).1, fun i hi => (key i hi).2.1, fun i hi => ⟨(key i hi).2.2.1, (key i hi).2.2.2.1⟩,
  fun i hi => ⟨(key i hi).2.2.2.2.1,(key i hi).2.2.2.2.2.1⟩,fun i hi => ⟨(key i hi).2.2.2.2.2.2.1,(key i hi).2.2.2.2.2.2.2⟩⟩
inductive Clo {α : Type} (S : α → Prop) (R : α → α → Prop) : α → Prop
 | base {a : α} (h : S a) : Clo S R a
 | step {a b : α} (h : Clo S R a) (r : R a b) : Clo S R b
theorem Clo.sub {α:Type}{S:α → Prop}{R:α → α → Prop}{T:α → Prop}(h1:∀ a,S a → T a) (h2:∀ a b,T a → R a b → T b):∀ a,Clo S R a → T a:=by
 intro a h
 induction h with
 | base h => exact h1 _ h
 | step _ r ih => exact h2 _ _ ih r
def edge (pts : List Pnt) (i k : Nat) : Prop := i < pts.length ∧ (k : Int) ∈ pts[i]!.next
def Mb (ts : List Int) (pts : List Pnt) (a : Nat × Nat) : Prop := Clo (fun a => ∃ i,edge pts i a.1 ∧ setAt pts[i]! = a.2) (fun a b => b.2 = a.2 ∧ edge pts a.1 b.1 ∧ useAt ts pts[a.1]! a.2 ≠ 2) a
def Na (ts : List Int) (pts : List Pnt) (a : Nat × Nat) : Prop := Clo (fun a => a.2 < ts.length ∧ (a.1 = 0 ∨ ∃ i,edge pts i a.1 ∧ useAt ts pts[i]! a.2 = 2 ∧ setAt pts[i]! ≠ a.2)) (fun a b => b.2 = a.2 ∧ edge pts a.1 b.1 ∧ setAt pts[a.1]! ≠ a.2) a
def Nd (ts : List Int) (pts : List Pnt) (a : Nat × Nat) : Prop := Clo (fun a => a.1 < pts.length ∧ a.2 < ts.length ∧ useAt ts pts[a.1]! a.2 ≠ 0) (fun a b => b.2 = a.2 ∧ edge pts b.1 a.1 ∧ setAt pts[b.1]! ≠ a.2) a
def Lv (ts : List Int) (pts : List Pnt) (i v : Nat) : Prop := ∃ k,edge pts i k ∧ Nd ts pts (k,v)
def isLn (x : Pnt) : Bool := decide (x.op = 4) || decide (x.op = 5)
def Fr' (ts : List Int) (pts : List Pnt) (a : Nat × Nat × Nat) : Prop := Clo (fun a => edge pts a.2.2 a.1 ∧ isLn pts[a.2.2]! = true ∧ setAt pts[a.2.2]! = a.2.1)
 (fun a b => b.2.2 = a.2.2 ∧ edge pts a.1 b.1 ∧ ((setAt pts[a.1]! ≠ b.2.1 ∧ b.2.1 = a.2.1 ∧ useAt ts pts[a.1]! a.2.1 ≠ 2) ∨
  (setAt pts[a.1]! = b.2.1 ∧ (a.2.1 : Int) = pts[a.1]!.y ∧ ((isLn pts[a.1]! = true ∧ isRef ts[a.2.1]! = true) ∨ pts[a.1]!.op = 3)))) a
def Pl' (ts : List Int) (pts : List Pnt) (a : Nat × Nat) : Prop := Clo (fun a => edge pts a.2 a.1 ∧ isLn pts[a.2]! = true)
 (fun a b => b.2 = a.2 ∧ edge pts a.1 b.1 ∧ useAt ts pts[a.1]! pts[a.2]!.y ≠ 2 ∧ setAt pts[a.1]! ≠ pts[a.2]!.y) a
def mkBits (f : Nat → Bool) : Nat → Nat
 | 0 => 0
 | n + 1 => mkBits f n ||| (if f n then 2 ^ n else 0)
theorem testBit_mkBits (f:Nat → Bool):∀ (n i:Nat),(mkBits f n).testBit i = (decide (i < n) && f i)
 | 0,i => by simp [mkBits]
 | n + 1, i => by
  rw [mkBits,Nat.testBit_or,testBit_mkBits f n i]
  by_cases h : i = n
  ·subst h;cases hf : f i <;> simp [Nat.testBit_two_pow_self]
  ·have : ((if f n = true then 2 ^ n else 0).testBit i) = false := by
    split
    ·exact Nat.testBit_two_pow_of_ne (fun e => h e.symm)
    ·simp
   rw [this,Bool.or_false]
   congr 1
   simp only [decide_eq_decide]; omega
theorem mkBits_lt (f:Nat → Bool) (n:Nat):mkBits f n < 2 ^ n:=by
 apply Nat.lt_pow_two_of_testBit
 intro i hi
 rw [testBit_mkBits]; simp;omega
theorem mkBits_sm {f:Nat → Bool}{n:Nat}(h:n ≤ 62):Sm (mkBits f n) := ⟨Nat.lt_of_lt_of_le (mkBits_lt f n) (Nat.pow_le_pow_right (by decide) h)⟩
theorem fold_law {σ ι:Type}(stp:σ × Bool → ι → σ × Bool) (C:ι → σ → Prop) (μ:σ → Nat) (S:σ → Prop) :
  ∀ (L : List ι),(∀ s b i,i ∈ L → S s → S (stp (s,b) i).1 ∧ ((stp (s,b) i = (s,b) ∧ C i s) ∨ ((stp (s,b) i).2 = true ∧ μ (stp (s,b) i).1 < μ s))) →
  ∀ s b,S s → S (L.foldl stp (s,b)).1 ∧ ((L.foldl stp (s,b) = (s,b) ∧ ∀ i ∈ L,C i s) ∨ ((L.foldl stp (s,b)).2 = true ∧ μ (L.foldl stp (s,b)).1 < μ s))
 | [],_,s,b,hs => ⟨hs,.inl ⟨rfl,by simp⟩⟩
 | i :: L, h, s, b, hs => by
  have h1 := h s b i (List.mem_cons_self) hs
  simp only [List.foldl_cons]
  generalize stp (s,b) i = r at h1
  obtain ⟨s',b'⟩ := r
  have h2 := fold_law stp C μ S L (fun s b j hj => h s b j (List.mem_cons_of_mem _ hj)) s' b' h1.1
  refine ⟨h2.1,?_⟩
  rcases h1.2 with ⟨e1,c1⟩ | ⟨e1,c1⟩
  ·cases e1
   rcases h2.2 with ⟨e2,c2⟩ | ⟨e2,c2⟩
   ·exact .inl ⟨e2,fun j hj => by rcases List.mem_cons.1 hj with rfl|hj;exact c1;exact c2 j hj⟩
   ·exact .inr ⟨e2,c2⟩
  ·rcases h2.2 with ⟨e2, c2⟩ | ⟨e2, c2⟩
   ·rw [e2]; exact .inr ⟨e1,c1⟩
   ·exact .inr ⟨e2,by dsimp only at c1;omega⟩
theorem foldl_take {σ ι:Type}[Inhabited ι] (f:σ → ι → σ) (L:List ι) (s:σ) (k:Nat) (h:k < L.length):(L.take (k + 1)).foldl f s = f ((L.take k).foldl f s) L[k]!:=by
 rw [take_succB _ _ h,List.foldl_append]; rfl
def sumL (l : List Nat) : Nat := l.foldr (· + ·) 0
theorem sumL_set (g:Nat → Nat):∀ (l:List Nat) (k:Nat) (x:Nat),k < l.length → sumL ((l.set k x).map g) + g l[k]! = sumL (l.map g) + g x
 | a :: l,0,x,_ => by simp [sumL]; omega
 | a :: l, k + 1, x, h => by
  have := sumL_set g l k x (by simpa using h)
  have e : (a :: l)[k + 1]! = l[k]! := by rw [getB _ _ h,getB _ _ (by simpa using h)]; rfl
  rw [e]
  simp only [List.set_cons_succ,List.map_cons,sumL,List.foldr_cons] at this ⊢
  omega
abbrev aG (ts : List Int) (bd : List Stmt) (pts : List Pnt) : AV := .iptr [sl cI ts,sl cStmt bd,sl cPnt pts]
def tkT (t : Int) : Bool := decide (t = 2) || decide (t = 4)
def wS (ts : List Int) (x : Pnt) (us : List Int) : Nat := mkBits (fun v => decide (useAt ts x v ∈ us)) ts.length
def sbit (x : Pnt) : Nat := if 0 ≤ setAt x then 2 ^ (setAt x).toNat else 0
def valF (ts : List Int) (x : Pnt) (A : Nat) : Nat := anl A (wS ts x [2]) ||| sbit x
theorem sbit_sm {x:Pnt}(h:setAt x < 62):Sm (sbit x):=by
 unfold sbit;split
 ·exact Sm.pow (by omega)
 ·infer_instance
theorem useAt_bd (ts:List Int) (x:Pnt) (v:Int):0 ≤ useAt ts x v ∧ useAt ts x v ≤ 3:=by
 unfold useAt;grind
theorem WG.set {ts:List Int}{pts:List Pnt}(h:WG ts pts) (i:Nat) (hi:i < pts.length):setAt pts[i]! < ts.length ∧ (0 ≤ setAt pts[i]! ∨ setAt pts[i]! = -1):=by
 have := h.x i hi
 have := h.tl
 unfold setAt;split <;> omega
theorem mkBits_succ (f:Nat → Bool) (k:Nat) (h:f k = true):mkBits f k ||| 2 ^ k = mkBits f (k + 1) := by rw [mkBits,if_pos h]
theorem mkBits_skip (f:Nat → Bool) (k:Nat) (h:f k = false):mkBits f k = mkBits f (k + 1) := by rw [mkBits,if_neg (by simp [h]),Nat.or_zero]
theorem lkH_none {i:Nat}{hs:List (Nat × Option (List AV))}{id:Nat}{cs:List AV}(h:lkH ((i,none) :: hs) id = some cs):lkH hs id = some cs ∧ id ≠ i:=by
 rw [lkH_c] at h
 split at h
 ·cases h
 ·rename_i e;exact ⟨h,e⟩
theorem Le.frzD {ts:List (Nat × AV)}{hs:List (Nat × Option (List AV))}{n:Nat}{z0:Lo}{d i m e:Nat}{cs:List AV}(hd:lk ts d = some (.own i 0 m e)) (hi:lkH hs i = some cs) :
  Le ⟨ts,hs,n,z0⟩ ⟨(d,.imm m cs) :: ts,(i,none) :: hs,n,z0⟩ := by
 rintro C a w ⟨h0,ι,g,gh⟩
 obtain ⟨gh',car⟩ := gh.less (F' := Fn n z0) (H' := lkH ((i,none) :: hs)) (fun id c h => (lkH_none h).1) (fun _ h => h)
 refine ⟨h0,ι,⟨g.df,g.sz,fun t av ht => ?_⟩,gh'⟩
 rw [show lk (⟨(d,.imm m cs) :: ts,(i,none) :: hs,n,z0⟩ : AS).ts t = lk ((d,.imm m cs) :: ts) t from rfl,lk_c] at ht
 split at ht
 ·rename_i et
  subst et
  cases ht
  obtain ⟨y,hy,hr⟩ := g.tm t _ hd
  refine ⟨y,hy,?_⟩
  simp only [Rd] at hr ⊢
  rcases hr with ⟨_,h2,a',h3⟩ | ⟨b,β,c,h1,h2,h3,h4⟩
  ·subst h2;exact ⟨a',0,h3,.inl rfl⟩
  ·refine ⟨_, c, h2, ?_⟩
   rcases Nat.eq_zero_or_pos m with h5|h5
   ·exact .inl h5
   ·refine .inr ⟨b, β + 0, h3, rfl, ?_⟩
    rcases gh.obj i cs hi with ⟨q1,q2⟩ | ⟨b',β',arr,e',q1,q2,q3,q4,q5,q6⟩
    ·rw [h1] at q1;cases q1
    ·rw [h1] at q1; cases q1
     refine .inr ⟨?_,RdC.carryB car _ _ _ (fun o x hx => hx) q4⟩
     rintro (h | ⟨id',cs',β',r1,r2⟩)
     ·exact q5 h
     ·exact (lkH_none r1).2 (gh.sep _ _ _ _ _ _ _ (lkH_none r1).1 hi r2 h1)
 ·obtain ⟨y, hy, hr⟩ := g.tm t av ht
  exact ⟨y,hy,Rd.carry car _ _ hr⟩
theorem Le.frzP {ts:List (Nat × AV)}{hs:List (Nat × Option (List AV))}{n:Nat}{z0:Lo}{d i:Nat}{cs:List AV}(hd:lk ts d = some (.optr i 0)) (hi:lkH hs i = some cs) :
  Le ⟨ts,hs,n,z0⟩ ⟨(d,.iptr cs) :: ts,(i,none) :: hs,n,z0⟩ := by
 rintro C a w ⟨h0,ι,g,gh⟩
 obtain ⟨gh',car⟩ := gh.less (F' := Fn n z0) (H' := lkH ((i,none) :: hs)) (fun id c h => (lkH_none h).1) (fun _ h => h)
 refine ⟨h0,ι,⟨g.df,g.sz,fun t av ht => ?_⟩,gh'⟩
 rw [show lk (⟨(d,.iptr cs) :: ts,(i,none) :: hs,n,z0⟩ : AS).ts t = lk ((d,.iptr cs) :: ts) t from rfl,lk_c] at ht
 split at ht
 ·rename_i et
  subst et
  cases ht
  obtain ⟨y,hy,hr⟩ := g.tm t _ hd
  refine ⟨y,hy,?_⟩
  simp only [Rd] at hr ⊢
  obtain ⟨b,β,h1,h2⟩ := hr
  refine ⟨b,β + 0,h2,?_⟩
  rcases gh.obj i cs hi with ⟨q1,q2⟩ | ⟨b',β',arr,e',q1,q2,q3,q4,q5,q6⟩
  ·rw [h1] at q1;cases q1
  ·rw [h1] at q1; cases q1
   refine .inr ⟨?_,RdC.carryB car _ _ _ (fun o x hx => hx) q4⟩
   rintro (h | ⟨id',cs',β',r1,r2⟩)
   ·exact q5 h
   ·exact (lkH_none r1).2 (gh.sep _ _ _ _ _ _ _ (lkH_none r1).1 hi r2 h1)
 ·obtain ⟨y, hy, hr⟩ := g.tm t av ht
  exact ⟨y,hy,Rd.carry car _ _ hr⟩
theorem Le.nilOwn {ts:List (Nat × AV)}{hs:List (Nat × Option (List AV))}{n:Nat}{z0:Lo}{d:Nat}(e:Nat) (hd:lk ts d = some (.v (.slice none 0 0))) (hn:n < big) :
  Le ⟨ts,hs,n,z0⟩ ⟨(d,.own n 0 0 e) :: ts,(n,some []) :: hs,n + 1,z0⟩ := by
 rintro C a w ⟨h0,ι,g,gh⟩
 have hf : ι n = none := gh.fresh n ⟨Nat.le_refl _,.inl hn⟩
 let ι' : Pl := upd ι n (some none)
 have hne : ∀ id p, ι id = some p → ι' id = some p := by
  intro id p h
  have : id ≠ n := by rintro rfl;rw [hf] at h;cases h
  simp only [ι',upd_ne _ _ this,h]
 have hback : ∀ id b β, ι' id = some (some (b, β)) → id ≠ n ∧ ι id = some (some (b, β)) := by
  intro id b β h
  by_cases q : id = n
  ·subst q;simp only [ι',upd_same] at h;cases h
  ·simp only [ι',upd_ne _ _ q] at h;exact ⟨q,h⟩
 have hH : ∀ id cs, id ≠ n → lkH ((n, some []) :: hs) id = some cs → lkH hs id = some cs := by
  intro id cs q h;rw [lkH_c,if_neg q] at h;exact h
 have car : Carry w (badOf C.X ι (lkH hs)) ι w (badOf C.X ι' (lkH ((n, some []) :: hs))) ι' := by
  refine ⟨fun b o x h1 h2 => ⟨?_,h2⟩,hne,fun _ => Nat.le_refl _⟩
  rintro (h | ⟨id,cs,β,q1,q2⟩)
  ·exact h1 (.inl h)
  ·obtain ⟨r1, r2⟩ := hback _ _ _ q2
   exact h1 (.inr ⟨id,cs,β,hH _ _ r1 q1,r2⟩)
 refine ⟨h0,ι',⟨g.df,g.sz,fun t av ht => ?_⟩,⟨fun id cs h => ?_,fun id id' cs cs' b β β' q1 q2 q3 q4 => ?_,gh.fr,fun id p h => hne _ _ (gh.ex _ _ h),fun id h => ?_⟩⟩
 ·rw [show lk (⟨(d, .own n 0 0 e) :: ts, (n, some []) :: hs, n + 1, z0⟩ : AS).ts t = lk ((d, .own n 0 0 e) :: ts) t from rfl, lk_c] at ht
  split at ht
  ·rename_i et
   subst et
   cases ht
   obtain ⟨y,hy,hr⟩ := g.tm t _ hd
   refine ⟨y,hy,?_⟩
   simp only [Rd] at hr ⊢
   exact .inl ⟨⟨none,by simp only [ι',upd_same]⟩,trivial,none,hr⟩
  ·obtain ⟨y, hy, hr⟩ := g.tm t av ht
   exact ⟨y,hy,Rd.carry car _ _ hr⟩
 ·by_cases q : id = n
  ·subst q
   simp only [lkH_c,if_true,Option.some.injEq] at h
   exact .inl ⟨by simp only [ι',upd_same],h.symm⟩
  ·rcases gh.obj id cs (hH _ _ q h) with ⟨r1, r2⟩ | ⟨b, β, arr, e', r1, r2, r3, r4, r5, r6⟩
   ·exact .inl ⟨hne _ _ r1,r2⟩
   ·exact .inr ⟨b,β,arr,e',hne _ _ r1,r2,r3,RdC.carryB car _ _ _ (fun o x hx => hx) r4,r5,r6⟩
 ·obtain ⟨r1, r2⟩ := hback _ _ _ q3
  obtain ⟨r3,r4⟩ := hback _ _ _ q4
  exact gh.sep _ _ _ _ _ _ _ (hH _ _ r1 q1) (hH _ _ r3 q2) r2 r4
 ·have h1 : n + 1 ≤ id := h.1
  have h2 : id < big ∨ z0.fb ≤ id := h.2
  have q : id ≠ n := by omega
  simp only [ι',upd_ne _ _ q]
  exact gh.fresh id ⟨by show n ≤ id;omega,h2⟩
section
theorem rw_le {l:List Oper}{s s':AS}(h:RW P N all Q .txt l s') (k:Le s s'):RW P N all Q .txt l s := fun C a w hN g => h C a w hN (k C a w g)
theorem Le.trans {s s' s'':AS}(h:Le s s') (k:Le s' s''):Le s s'' := fun C a w g => k C a w (h C a w g)
theorem Le.frzTop {ts:List (Nat × AV)}{hs:List (Nat × Option (List AV))}{n:Nat}{z0:Lo}{d i m e:Nat}{cs:List AV} :
  Le ⟨(d,.own i 0 m e) :: ts,(i,some cs) :: hs,n,z0⟩ ⟨(d,.imm m cs) :: ts,(i,none) :: hs,n,z0⟩ := by
 refine (Le.frzD (d := d) (i := i) (m := m) (e := e) (cs := cs) (by simp [lk_c]) (by simp [lkH_c])).trans ?_
 refine Le.of (fun t av h => ?_) (fun j c h => ?_) (Nat.le_refl _) rfl
 ·show lk ((d, .imm m cs) :: (d, .own i 0 m e) :: ts) t = _
  have h' : lk ((d,.imm m cs) :: ts) t = some av := h
  simp only [lk_c] at h' ⊢
  split
  ·rename_i q;rw [if_pos q] at h'; exact h'
  ·rename_i q;rw [if_neg q] at h'; exact h'
 ·show lkH ((i, none) :: (i, some cs) :: hs) j = _
  have h' : lkH ((i,none) :: hs) j = some c := h
  simp only [lkH_c] at h' ⊢
  split
  ·rename_i q;rw [if_pos q] at h'; exact h'
  ·rename_i q;rw [if_neg q] at h'; exact h'
theorem rx_buildSliceI {t el len e:Nat}{parts:Array (Nat × Operand)}{zs:List Value}{l:List (Nat × AV)}{cs:List AV}[ht:SlT P t el] [he:SzT P el e] [hz:ZrT P el zs] (hze:zs.length = e) (hsm:Nat.ble (len * e) 16777216 = true)
  (hl : evs (lk ts) parts.toList = some l) (hfl : fillA (fun i => some (i * e,e)) ((List.replicate len (zs.map .v)).flatten) l = some cs) (hM : Nat.blt n big = true) (hN : Nat.blt d N = true) (kk : RW P N all Q .txt rest ⟨(d,.imm len cs) :: ts,(n,none) :: hs,n + 1,z0⟩) :
  RW P N all Q .txt (⟨some d,.buildSlice t len parts,ty,pos,af,none⟩ :: rest) ⟨ts,hs,n,z0⟩ :=
 rx_buildSlice hze hsm hl hfl hM hN (md' := .txt) (rw_le kk Le.frzTop)
end
theorem Le.mv {ts:List (Nat × AV)}{hs:List (Nat × Option (List AV))}{n:Nat}{z0:Lo}{d i o m e:Nat}{cs:List AV}(hd:lk ts d = some (.own i o m e)) (hi:lkH hs i = some cs) (hn:n < big) :
  Le ⟨ts,hs,n,z0⟩ ⟨(d,.own n o m e) :: ts,(n,some cs) :: (i,none) :: hs,n + 1,z0⟩ := by
 rintro C a w ⟨h0,ι,g,gh⟩
 have hf : ι n = none := gh.fresh n ⟨Nat.le_refl _,.inl hn⟩
 have hin : ∃ p, ι i = some p := by
  rcases gh.obj i cs hi with ⟨r1,_⟩ | ⟨b,β,_,_,r1,_⟩
  ·exact ⟨_,r1⟩
  ·exact ⟨_,r1⟩
 obtain ⟨pi,hpi⟩ := hin
 have hni : n ≠ i := by rintro rfl;rw [hf] at hpi;cases hpi
 let ι' : Pl := upd ι n (ι i)
 have hnn : ι' n = ι i := by simp only [ι',upd_same]
 have hne' : ∀ id,id ≠ n → ι' id = ι id := fun id h => by simp only [ι',upd_ne _ _ h]
 have hne : ∀ id p, ι id = some p → ι' id = some p := by
  intro id p h
  have : id ≠ n := by rintro rfl;rw [hf] at h;cases h
  rw [hne' _ this,h]
 -- the objects of the new state, under their old ids
 let σ : Nat → Nat := fun id => if id = n then i else id
 have hσ : ∀ id c, lkH ((n, some cs) :: (i, none) :: hs) id = some c → lkH hs (σ id) = some c ∧ ι' id = ι (σ id) ∧ (id = n ∨ id ≠ i) := by
  intro id c h
  simp only [lkH_c] at h
  by_cases q : id = n
  ·subst q
   rw [if_pos rfl] at h;cases h
   exact ⟨by simp only [σ,if_true]; exact hi,by simp only [σ,if_true]; exact hnn,.inl rfl⟩
  ·rw [if_neg q] at h
   by_cases q2 : id = i
   ·rw [if_pos q2] at h;cases h
   ·rw [if_neg q2] at h
    exact ⟨by simp only [σ,if_neg q]; exact h,by simp only [σ,if_neg q]; exact hne' _ q,.inr q2⟩
 have car : Carry w (badOf C.X ι (lkH hs)) ι w (badOf C.X ι' (lkH ((n, some cs) :: (i, none) :: hs))) ι' := by
  refine ⟨fun b o x h1 h2 => ⟨?_,h2⟩,hne,fun _ => Nat.le_refl _⟩
  rintro (h | ⟨id,c,β,q1,q2⟩)
  ·exact h1 (.inl h)
  ·obtain ⟨r1, r2, _⟩ := hσ id c q1
   exact h1 (.inr ⟨σ id,c,β,r1,by rw [← r2]; exact q2⟩)
 refine ⟨h0,ι',⟨g.df,g.sz,fun t av ht => ?_⟩,⟨fun id c h => ?_,fun id id' c c' b β β' q1 q2 q3 q4 => ?_,gh.fr,fun id p h => hne _ _ (gh.ex _ _ h),fun id h => ?_⟩⟩
 ·have ht' : lk ((d, .own n o m e) :: ts) t = some av := ht
  rw [lk_c] at ht'
  split at ht'
  ·rename_i et
   subst et
   cases ht'
   obtain ⟨y,hy,hr⟩ := g.tm t _ hd
   refine ⟨y,hy,?_⟩
   have hr' := Rd.carry car _ _ hr
   simp only [Rd,hnn] at hr' ⊢
   rw [hne' i (fun h => hni h.symm)] at hr'
   exact hr'
  ·obtain ⟨y, hy, hr⟩ := g.tm t av ht'
   exact ⟨y,hy,Rd.carry car _ _ hr⟩
 ·obtain ⟨r1, r2, _⟩ := hσ id c h
  rcases gh.obj _ c r1 with ⟨s1,s2⟩ | ⟨b,β,arr,e',s1,s2,s3,s4,s5,s6⟩
  ·exact .inl ⟨by rw [r2]; exact s1,s2⟩
  ·exact .inr ⟨b,β,arr,e',by rw [r2]; exact s1,s2,s3,RdC.carryB car _ _ _ (fun o x hx => hx) s4,s5,s6⟩
 ·obtain ⟨r1, r2, r3⟩ := hσ id c q1
  obtain ⟨t1,t2,t3⟩ := hσ id' c' q2
  have := gh.sep _ _ _ _ _ _ _ r1 t1 (by rw [← r2]; exact q3) (by rw [← t2]; exact q4)
  simp only [σ] at this
  split at this <;> split at this
  ·omega
  ·rename_i u1 u2; rcases t3 with t3 | t3
   ·exact absurd t3 u2
   ·exact absurd this.symm t3
  ·rename_i u1 u2; rcases r3 with r3 | r3
   ·exact absurd r3 u1
   ·exact absurd this r3
  ·exact this
 ·have h1 : n + 1 ≤ id := h.1
  have h2 : id < big ∨ z0.fb ≤ id := h.2
  rw [hne' id (by omega)]
  exact gh.fresh id ⟨by show n ≤ id;omega,h2⟩
theorem Le.slot {ts:List (Nat × AV)}{hs:List (Nat × Option (List AV))}{n:Nat}{z0:Lo}{d:Nat}{v v':AV}(hd:lk ts d = some v) (h:∀ (w:World) (bad:Nat → Prop) (ι:Pl) (y:Value),Rd w bad ι v y → Rd w bad ι v' y) :
  Le ⟨ts,hs,n,z0⟩ ⟨(d,v') :: ts,hs,n,z0⟩ := by
 rintro C a w ⟨h0,ι,g,gh⟩
 refine ⟨h0,ι,⟨g.df,g.sz,fun t av ht => ?_⟩,gh⟩
 have ht' : lk ((d,v') :: ts) t = some av := ht
 rw [lk_c] at ht'
 split at ht'
 ·rename_i et
  subst et
  cases ht'
  obtain ⟨y,hy,hr⟩ := g.tm t _ hd
  exact ⟨y,hy,h _ _ _ _ hr⟩
 ·exact g.tm t av ht'
theorem Le.nilImm {ts:List (Nat × AV)}{hs:List (Nat × Option (List AV))}{n:Nat}{z0:Lo}{d:Nat}(hd:lk ts d = some (.v (.slice none 0 0))):Le ⟨ts,hs,n,z0⟩ ⟨(d,.imm 0 []) :: ts,hs,n,z0⟩ :=
 Le.slot hd fun w bad ι y h => Rd_kAV (av := .v (.slice none 0 0)) h
theorem flat_nilH {α:Type}{f:α → List AV}{hs:List (Nat × Option (List AV))}{i:Nat}(h:lkH hs i = some []):lkH hs i = some (flat f []) := h
end Go.AL
