/-
  A part of the proofs over this program: rules and contracts of its functions (the rules).
-/
import Derived.Test.YtlbbbmeadnelbaaGreatA04
import Derived.Laws.BytesString
import Derived.Laws.StructEq
set_option linter.unusedVariables false
set_option linter.unusedSimpArgs false
namespace Go.AL
open Go.RowKit
set_option linter.unusedVariables false
set_option linter.unusedSimpArgs false
theorem Le.virt {ts : List (Nat × AV)} {hs : List (Nat × Option (List AV))} {n : Nat} {z0 : Lo} (hn : n < big) : Le ⟨ts, hs, n, z0⟩ ⟨ts, (n, some []) :: hs, n + 1, z0⟩ := by
  rintro C a w ⟨h0, ι, g, gh⟩
  obtain ⟨g1, c1⟩ := gh.virt (id := n) ⟨Nat.le_refl _, .inl hn⟩
  have e : lkH ((n, some []) :: hs) = upd (lkH hs) n (some []) := lkH_cons _ _ _
  refine ⟨h0, upd ι n (some none), ?_, ?_⟩
  · show TG C _ (lk ts) (lkH ((n, some []) :: hs)) a w
    rw [e]; exact g.carry c1
  · show HG C _ _ (lkH ((n, some []) :: hs)) w
    rw [e]
    refine (g1.less (fun _ _ h => h) (fun j hj => ?_)).1
    have h1 : n + 1 ≤ j := hj.1
    exact ⟨⟨by show n ≤ j; omega, hj.2⟩, by omega⟩
theorem Le.cellsN {ts : List (Nat × AV)} {hs : List (Nat × Option (List AV))} {n : Nat} {z0 : Lo} {i q : Nat} {cs cs' cq : List AV} (hi : lkH hs i = some cs) (hq : lkH hs q = some cq) (hl : cs'.length = cs.length)
    (h : ∀ (w : World) (bad : Nat → Prop) (ι : Pl) (b β : Nat), (∃ p, ι q = some p) → RdC w bad ι cs b β → RdC w bad ι cs' b β) :
    Le ⟨ts, hs, n, z0⟩ ⟨ts, (i, some cs') :: hs, n, z0⟩ := by
  rintro C a w ⟨h0, ι, g, gh⟩
  have hqq : ∃ p, ι q = some p := by
    rcases gh.obj q cq hq with ⟨p1, _⟩ | ⟨_, _, _, _, p1, _⟩ <;> exact ⟨_, p1⟩
  have hk : ∀ id c, lkH ((i, some cs') :: hs) id = some c → (id = i ∧ c = cs') ∨ (id ≠ i ∧ lkH hs id = some c) := by
    intro id c hc
    rw [lkH_c] at hc
    split at hc
    · rename_i e; cases hc; exact .inl ⟨e, rfl⟩
    · rename_i e; exact .inr ⟨fun h => e h, hc⟩
  have hk2 : ∀ id c, lkH hs id = some c → ∃ c', lkH ((i, some cs') :: hs) id = some c' := by
    intro id c hc
    rw [lkH_c]
    split
    · exact ⟨_, rfl⟩
    · exact ⟨_, hc⟩
  have hb : badOf C.X ι (lkH ((i, some cs') :: hs)) = badOf C.X ι (lkH hs) := by
    funext b
    refine propext ⟨?_, ?_⟩
    · rintro (h | ⟨id, c, β, h1, h2⟩)
      · exact .inl h
      · rcases hk id c h1 with ⟨rfl, _⟩ | ⟨_, h3⟩
        · exact .inr ⟨_, _, _, hi, h2⟩
        · exact .inr ⟨_, _, _, h3, h2⟩
    · rintro (h | ⟨id, c, β, h1, h2⟩)
      · exact .inl h
      · obtain ⟨c', h3⟩ := hk2 id c h1
        exact .inr ⟨_, _, _, h3, h2⟩
  refine ⟨h0, ι, ⟨g.df, g.sz, fun t av ht => ?_⟩, ?_, ?_, gh.fr, gh.ex, gh.fresh⟩
  · show ∃ y, a.tmps[t]? = some y ∧ Rd w (badOf C.X ι (lkH ((i, some cs') :: hs))) ι av y
    rw [hb]; exact g.tm t av ht
  · intro id c hc
    show _ ∨ ∃ b β arr e, ι id = some (some (b, β)) ∧ w.heap[b]? = some (.cells arr e (0, 0)) ∧ β + c.length ≤ arr.size ∧ RdC w (badOf C.X ι (lkH ((i, some cs') :: hs))) ι c b β ∧ ¬ C.X b ∧ (C.W0 b ∨ C.w0.heap.size ≤ b)
    rw [hb]
    rcases hk id c hc with ⟨rfl, rfl⟩ | ⟨_, h3⟩
    · rcases gh.obj _ _ hi with ⟨q1, q2⟩ | ⟨b, β, arr, e, q1, q2, q3, q4, q5⟩
      · subst q2
        exact .inl ⟨q1, List.eq_nil_of_length_eq_zero hl⟩
      · exact .inr ⟨b, β, arr, e, q1, q2, by rw [hl]; exact q3, h _ _ _ _ _ hqq q4, q5⟩
    · exact gh.obj _ _ h3
  · intro id id' c c' b β β' h1 h2 h3 h4
    obtain ⟨d1, e1⟩ : ∃ d, lkH hs id = some d := by
      rcases hk id c h1 with ⟨rfl, _⟩ | ⟨_, h⟩
      · exact ⟨_, hi⟩
      · exact ⟨_, h⟩
    obtain ⟨d2, e2⟩ : ∃ d, lkH hs id' = some d := by
      rcases hk id' c' h2 with ⟨rfl, _⟩ | ⟨_, h⟩
      · exact ⟨_, hi⟩
      · exact ⟨_, h⟩
    exact gh.sep id id' d1 d2 b β β' e1 e2 h3 h4
theorem RdC_mid {w : World} {bad : Nat → Prop} {ι : Pl} {c c' : AV} (hc : ∀ y, Rd w bad ι c y → Rd w bad ι c' y) : ∀ (a : List AV) (r : List AV) (b o : Nat), RdC w bad ι (a ++ c :: r) b o → RdC w bad ι (a ++ c' :: r) b o
  | [], r, b, o, h => by
    simp only [List.nil_append, RdC] at h ⊢
    obtain ⟨⟨x, h1, h2, h3⟩, h4⟩ := h
    exact ⟨⟨x, h1, h2, hc _ h3⟩, h4⟩
  | x :: a, r, b, o, h => by
    simp only [List.cons_append, RdC] at h ⊢
    exact ⟨h.1, RdC_mid hc a r b (o + 1) h.2⟩
theorem Le.nilCell {ts : List (Nat × AV)} {hs : List (Nat × Option (List AV))} {n : Nat} {z0 : Lo} {i : Nat} (e : Nat) (c1 : List AV) {c2 : List AV} (hi : lkH hs i = some (c1 ++ .v (.slice none 0 0) :: c2)) (hin : i ≠ n) (hn : n < big) :
    Le ⟨ts, hs, n, z0⟩ ⟨ts, (i, some (c1 ++ .own n 0 0 e :: c2)) :: (n, some []) :: hs, n + 1, z0⟩ :=
  (Le.virt hn).trans (Le.cellsN (q := n) (cs := c1 ++ .v (.slice none 0 0) :: c2) (by rw [lkH_c, if_neg hin]; exact hi) (by rw [lkH_c, if_pos rfl]) (by simp) fun w bad ι b β hp hr =>
    RdC_mid (fun y hy => by simp only [Rd] at hy ⊢; exact .inl ⟨hp, trivial, none, hy⟩) c1 c2 b β hr)
theorem Le.frzC {ts : List (Nat × AV)} {hs : List (Nat × Option (List AV))} {n : Nat} {z0 : Lo} {j i m e : Nat} (c1 : List AV) {c2 d : List AV} (hj : lkH hs j = some (c1 ++ .own i 0 m e :: c2)) (hi : lkH hs i = some d) (hij : j ≠ i) :
    Le ⟨ts, hs, n, z0⟩ ⟨ts, (j, some (c1 ++ .imm m d :: c2)) :: (i, none) :: hs, n, z0⟩ := by
  rintro C a w ⟨h0, ι, g, gh⟩
  have hk : ∀ id c, lkH ((j, some (c1 ++ .imm m d :: c2)) :: (i, none) :: hs) id = some c → (id = j ∧ c = c1 ++ .imm m d :: c2) ∨ (id ≠ j ∧ id ≠ i ∧ lkH hs id = some c) := by
    intro id c hc
    rw [lkH_c] at hc
    split at hc
    · rename_i e; cases hc; exact .inl ⟨e, rfl⟩
    · rename_i e
      rw [lkH_c] at hc
      split at hc
      · cases hc
      · rename_i e2; exact .inr ⟨e, e2, hc⟩
  have hk2 : ∀ id c, lkH ((j, some (c1 ++ .imm m d :: c2)) :: (i, none) :: hs) id = some c → id ≠ i ∧ ∃ c', lkH hs id = some c' := by
    intro id c hc
    rcases hk id c hc with ⟨rfl, _⟩ | ⟨_, h2, h3⟩
    · exact ⟨hij, _, hj⟩
    · exact ⟨h2, _, h3⟩
  have hbad : ∀ b, badOf C.X ι (lkH ((j, some (c1 ++ .imm m d :: c2)) :: (i, none) :: hs)) b → badOf C.X ι (lkH hs) b := by
    rintro b (h | ⟨id, c, β, h1, h2⟩)
    · exact .inl h
    · obtain ⟨_, c', h3⟩ := hk2 id c h1
      exact .inr ⟨id, c', β, h3, h2⟩
  have car : Carry w (badOf C.X ι (lkH hs)) ι w (badOf C.X ι (lkH ((j, some (c1 ++ .imm m d :: c2)) :: (i, none) :: hs))) ι := ⟨fun b o x h1 h2 => ⟨fun q => h1 (hbad b q), h2⟩, fun _ _ h => h, fun _ => Nat.le_refl _⟩
  have hcell : ∀ y, Rd w (badOf C.X ι (lkH ((j, some (c1 ++ .imm m d :: c2)) :: (i, none) :: hs))) ι (.own i 0 m e) y → Rd w (badOf C.X ι (lkH ((j, some (c1 ++ .imm m d :: c2)) :: (i, none) :: hs))) ι (.imm m d) y := by
    intro y hr
    simp only [Rd] at hr ⊢
    rcases hr with ⟨_, h2, a', h3⟩ | ⟨b, β, c, h1, h2, h3, h4⟩
    · subst h2; exact ⟨a', 0, h3, .inl rfl⟩
    · refine ⟨_, c, h2, ?_⟩
      rcases Nat.eq_zero_or_pos m with h5 | h5
      · exact .inl h5
      · refine .inr ⟨b, β + 0, h3, rfl, ?_⟩
        rcases gh.obj i d hi with ⟨q1, q2⟩ | ⟨b', β', arr, e', q1, q2, q3, q4, q5, q6⟩
        · rw [h1] at q1; cases q1
        · rw [h1] at q1; cases q1
          refine .inr ⟨?_, RdC.carryB car _ _ _ (fun o x hx => hx) q4⟩
          rintro (h | ⟨id', cs', β', r1, r2⟩)
          · exact q5 h
          · obtain ⟨r3, c', r4⟩ := hk2 id' cs' r1
            exact r3 (gh.sep _ _ _ _ _ _ _ r4 hi r2 h1)
  refine ⟨h0, ι, g.carry car, ⟨fun id c hc => ?_, fun id id' c c' b β β' h1 h2 h3 h4 => ?_, gh.fr, gh.ex, gh.fresh⟩⟩
  · rcases hk id c hc with ⟨rfl, rfl⟩ | ⟨_, _, h3⟩
    · rcases gh.obj _ _ hj with ⟨q1, q2⟩ | ⟨b, β, arr, e, q1, q2, q3, q4, q5⟩
      · simp at q2
      · exact .inr ⟨b, β, arr, e, q1, q2, by simpa using q3, RdC_mid hcell c1 c2 b β (RdC.carryB car _ _ _ (fun o x hx => hx) q4), q5⟩
    · rcases gh.obj _ _ h3 with ⟨q1, q2⟩ | ⟨b, β, arr, e, q1, q2, q3, q4, q5⟩
      · exact .inl ⟨q1, q2⟩
      · exact .inr ⟨b, β, arr, e, q1, q2, q3, RdC.carryB car _ _ _ (fun o x hx => hx) q4, q5⟩
  · obtain ⟨_, d1, e1⟩ := hk2 id c h1
    obtain ⟨_, d2, e2⟩ := hk2 id' c' h2
    exact gh.sep id id' d1 d2 b β β' e1 e2 h3 h4
end Go.AL

namespace Go.AL
open Go.RowKit
set_option linter.unusedVariables false
set_option linter.unusedSimpArgs false
theorem spl_one {cs : List AV} {v : Nat} {c : AV} : spl cs (0 + v * 1) [c] = cs.take v ++ c :: cs.drop (v + 1) := by
  unfold spl; simp
structure Hid (T : Prop) : Prop where pf : T
theorem cut {G : Prop} {T : Prop} (key : T) (main : Hid T → G) : G := main ⟨key⟩
end Go.AL

namespace Go.AL
open Go.RowKit
set_option linter.unusedVariables false
def sbin (op : BinOp) (a b : ByteArray) : Option Value :=
  match op with
  | .add => if a.size + b.size ≤ 9000000000000000000 then some (.string (a ++ b)) else none
  | .eql => some (.bool (a.toList == b.toList))
  | .neq => some (.bool (!(a.toList == b.toList)))
  | _ => none
def bytF (s : ByteArray) (l : List Int) : ByteArray := l.foldl (fun r n => r.push (UInt8.ofNat n.toNat)) s
section
variable {P : Program} {C : Ctx} {ι : Pl} {T : Nat → Option AV} {F : Nat → Prop} {H : Nat → Option (List AV)} {a : Act} {w : World} {o : Oper}
theorem pu_sbin (g : TG C ι T H a w) {op : BinOp} {t t' : TypeId} {x y : Operand} {m n : ByteArray} {v : Value} (ho : o.op = .binOp op t x y t')
    (hx : ev T x = some (.v (.string m))) (hy : ev T y = some (.v (.string n))) (h : sbin op m n = some v) : Pu P C ι H a w o (.v v) := by
  have h1 := ev_ok g hx
  have h2 := ev_ok g hy
  simp only [Rd] at h1 h2
  refine ⟨v, ?_, by simp [Rd]⟩
  have hg : (eqGuard op t x y (.string m) (.string n)).run P w = .ok () w := by
    unfold eqGuard
    cases op <;> simp
  have hb : (binOp op t (.string m) (.string n)).run P w = .ok v w := by
    cases op <;> simp only [sbin] at h <;> first | (cases h; done) | skip
    · split at h
      · rename_i hs
        cases h
        have h9 : ¬ (((m.size + n.size : Nat) : Int) > IntKind.i64.max) := by
          have : IntKind.i64.max = 9223372036854775807 := rfl
          omega
        show ((if ((m.size + n.size : Nat) : Int) > IntKind.i64.max then _ else pure (.string (m ++ n)) : Sem Value)).run P w = _
        rw [if_neg h9]; simp
      · cases h
    all_goals (cases h; simp [binOp, Op.stringOp])
  simp only [execOp, ho, h1, h2, Sem.run_bind, hg, Result.andThen_ok, hb, Sem.run_pure]
theorem RdL_ints {bad : Nat → Prop} {k : IntKind} : ∀ {ns : List Int} {l : List Value}, RdL w bad ι (ns.map fun n => .v (.int k n)) l → l = ns.map (Value.int k)
  | [], l, h => by simp only [List.map_nil, RdL] at h; exact h
  | n :: ns, l, h => by
    simp only [List.map_cons, RdL] at h
    obtain ⟨x, l', rfl, h0, h1, h2⟩ := h
    simp only [Rd] at h1
    rw [h1, RdL_ints h2, List.map_cons]
theorem pu_b2s (g : TG C ι T H a w) (gh : HG C ι F H w) {s t el : TypeId} {x : Operand} {av : AV} {m : Nat} {ns : List Int} (ho : o.op = .convert s t x) (hx : ev T x = some av)
    (ht : slOf P s = some el) (hu : inOf P el = some .u8) (hst : P.underlying t = some .string) (hs : sCells H 1 (kAV av) = some (m, ns.map fun n => .v (.int .u8 n))) :
    Pu P C ι H a w o (.v (.string (bytF .empty ns))) := by
  obtain ⟨ad, c, l, h1, h2, h3, h4, h5⟩ := sCells_ok gh (Rd_kAV (ev_ok g hx)) hs
  have hl := RdL_ints h3
  have hll : ns.length = m := by have := h2; rw [hl] at this; simpa using this
  refine ⟨.string (bytF .empty ns), ?_, by simp [Rd]⟩
  have hcv : (convert s t (.slice ad m c)).run P w = (Conv.bytesToString (.slice ad m c)).run P w := run_convert_bytes_string w s t el ad m c (slOf_u ht) (inOf_u hu) hst
  have hrun : (Conv.bytesToString (.slice ad m c)).run P w = .ok (.string (bytF .empty ns)) w := by
    cases ad with
    | none =>
      rcases h5 with ⟨b, o', h⟩ | h
      · cases h
      · subst h
        have : ns = [] := List.eq_nil_of_length_eq_zero hll
        subst this
        rfl
    | some ad =>
      have hload : (loadCells ad m).run P w = .ok (ns.map (Value.int .u8)).toArray w := by
        rcases h5 with ⟨b, o', h⟩ | h
        · cases h
          have := run_loadCells_list (P := P) w ⟨b, o', none⟩ l (fun j v hj => by rw [Addr.add_lit]; exact h4 b o' rfl j v hj)
          rw [h2, Nat.mul_one, hl] at this
          exact this
        · subst h
          have : ns = [] := List.eq_nil_of_length_eq_zero hll
          subst this
          simp [loadCells, loadCellsFrom]
      exact run_bytesToString w ad m c ns hload
  simp only [execOp, ho, h1, Sem.run_bind, hcv, hrun, Result.andThen_ok, Sem.run_pure]
end
class Eq3 (P : Program) (t : Nat) : Prop where
  g : P.eqGuardType P.depth t = false
  e : ∀ (a b c a' b' c' : Int) (w : World), (Op.equalIn 10000 t (.agg #[.int .i64 a, .int .i64 b, .int .i64 c]) (.agg #[.int .i64 a', .int .i64 b', .int .i64 c'])).run P w = .ok (a == a' && (b == b' && c == c')) w
section
variable {P : Program} {C : Ctx} {ι : Pl} {T : Nat → Option AV} {F : Nat → Prop} {H : Nat → Option (List AV)} {a : Act} {w : World} {o : Oper}
end
section
variable {P : Program} {N : Nat} {Q : Exit → AS → Prop} {all : Array Oper} {rest : List Oper} {ts : List (Nat × AV)} {hs : List (Nat × Option (List AV))} {n : Nat} {z0 : Lo} {md : Md}
variable {d : Nat} {ty : TypeId} {pos : String} {af : Array Edge}
theorem rx_sbin {op : BinOp} {t t' : TypeId} {x y : Operand} {m m' : ByteArray} {v : Value} (hx : ev (lk ts) x = some (.v (.string m))) (hy : ev (lk ts) y = some (.v (.string m')))
    (h : sbin op m m' = some v) (hN : Nat.blt d N = true) {md' : Md} [hmd : MdA md (rO x ++ rO y) [.inl d] md'] (kk : RW P N all Q md' rest ⟨(d, .v v) :: ts, hs, n, z0⟩) : RW P N all Q md (⟨some d, .binOp op t x y t', ty, pos, af, none⟩ :: rest) ⟨ts, hs, n, z0⟩ :=
  rw_pu rfl rfl (ltb hN) (fun C ι F T H a w ag g gh => pu_sbin g rfl (ag.l.ev.trans hx) (ag.r.ev.trans hy) h) (by rw [hmd.pf]; exact kk)
theorem rx_b2s {s t el : TypeId} {x : Operand} {av : AV} {m : Nat} (ns : List Int) [ht : SlT P s el] [hu : InT P el .u8] [hst : StT P t] (hx : ev (lk ts) x = some av)
    (hs' : sCells (lkH hs) 1 (kAV av) = some (m, ns.map fun n => .v (.int .u8 n))) (hN : Nat.blt d N = true) {md' : Md} [hmd : MdA md (rO x ++ rA av) [.inl d] md'] (kk : RW P N all Q md' rest ⟨(d, .v (.string (bytF .empty ns))) :: ts, hs, n, z0⟩) :
    RW P N all Q md (⟨some d, .convert s t x, ty, pos, af, none⟩ :: rest) ⟨ts, hs, n, z0⟩ :=
  rw_pu rfl rfl (ltb hN) (fun C ι F T H a w ag g gh => pu_b2s g gh rfl (ag.l.ev.trans hx) ht.pf hu.pf hst.pf (ag.r.sCells.trans hs')) (by rw [hmd.pf]; exact kk)
theorem rx_indexS {t : TypeId} {x i : Operand} {s : ByteArray} {k : IntKind} {m : Int} [ht : StT P t] (hx : ev (lk ts) x = some (.v (.string s)))
    (hi : ev (lk ts) i = some (.v (.int k m))) (hm : 0 ≤ m ∧ m < (s.size : Int)) (hN : Nat.blt d N = true) {md' : Md} [hmd : MdA md (rO x ++ rO i) [.inl d] md'] (kk : RW P N all Q md' rest ⟨(d, .v (.int .u8 ((s[m.toNat]!).toNat : Int))) :: ts, hs, n, z0⟩) :
    RW P N all Q md (⟨some d, .index t x i, ty, pos, af, none⟩ :: rest) ⟨ts, hs, n, z0⟩ :=
  rw_indexS (b := s[m.toNat]!) hx hi ht.pf hm.1 (by rw [getElem!_pos s m.toNat (by omega), getElem?_pos s m.toNat (by omega)]) (ltb hN) (by rw [hmd.pf]; exact kk)
theorem rx_sliceS {t : TypeId} {x : Operand} {lo hi : Option Operand} {s : ByteArray} {l h : Nat} [ht : StT P t] (hx : ev (lk ts) x = some (.v (.string s)))
    (hl : bndA (lk ts) lo 0 = some l) (hh : bndA (lk ts) hi s.size = some h) (hc : l ≤ h ∧ h ≤ s.size) (hN : Nat.blt d N = true) {md' : Md} [hmd : MdA md (rO x ++ (rB lo ++ rB hi)) [.inl d] md'] (kk : RW P N all Q md' rest ⟨(d, .v (.string (s.extract l h))) :: ts, hs, n, z0⟩) :
    RW P N all Q md (⟨some d, .slice t x lo hi none, ty, pos, af, none⟩ :: rest) ⟨ts, hs, n, z0⟩ := rw_sliceS hx ht.pf hl hh hc (ltb hN) (by rw [hmd.pf]; exact kk)
theorem u8_in (m : Int) (h : 0 ≤ m ∧ m ≤ 255) : IntKind.u8.wrap m = m := by
  have : IntKind.u8.wrap m = m % 256 := rfl
  rw [this]; omega
theorem rx_addU {t t' : TypeId} {x y : Operand} {m m' : Int} (hx : ev (lk ts) x = some (.v (.int .u8 m))) (hy : ev (lk ts) y = some (.v (.int .u8 m')))
    (h : 0 ≤ m + m' ∧ m + m' ≤ 255) (hN : Nat.blt d N = true) {md' : Md} [hmd : MdA md (rO x ++ rO y) [.inl d] md'] (kk : RW P N all Q md' rest ⟨(d, .v (.int .u8 (m + m'))) :: ts, hs, n, z0⟩) : RW P N all Q md (⟨some d, .binOp .add t x y t', ty, pos, af, none⟩ :: rest) ⟨ts, hs, n, z0⟩ :=
  rw_ibin hx hy (.inl rfl) (v := .int .u8 (m + m')) (by simp only [ibin, u8_in _ h]) (ltb hN) (by rw [hmd.pf]; exact kk)
theorem rx_subU {t t' : TypeId} {x y : Operand} {m m' : Int} (hx : ev (lk ts) x = some (.v (.int .u8 m))) (hy : ev (lk ts) y = some (.v (.int .u8 m')))
    (h : 0 ≤ m - m' ∧ m - m' ≤ 255) (hN : Nat.blt d N = true) {md' : Md} [hmd : MdA md (rO x ++ rO y) [.inl d] md'] (kk : RW P N all Q md' rest ⟨(d, .v (.int .u8 (m - m'))) :: ts, hs, n, z0⟩) : RW P N all Q md (⟨some d, .binOp .sub t x y t', ty, pos, af, none⟩ :: rest) ⟨ts, hs, n, z0⟩ :=
  rw_ibin hx hy (.inl rfl) (v := .int .u8 (m - m')) (by simp only [ibin, u8_in _ h]) (ltb hN) (by rw [hmd.pf]; exact kk)
theorem rx_convU {s t : TypeId} {x : Operand} {k' : IntKind} {m : Int} [hd : InT P t .u8] [hs' : InT P s k'] (hx : ev (lk ts) x = some (.v (.int k' m))) (h : 0 ≤ m ∧ m ≤ 255) (hN : Nat.blt d N = true) {md' : Md} [hmd : MdA md (rO x) [.inl d] md'] (kk : RW P N all Q md' rest ⟨(d, .v (.int .u8 m)) :: ts, hs, n, z0⟩) :
    RW P N all Q md (⟨some d, .convert s t x, ty, pos, af, none⟩ :: rest) ⟨ts, hs, n, z0⟩ := rw_conv hx hd.pf hs'.pf (ltb hN) (by rw [hmd.pf, u8_in _ h]; exact kk)
end
theorem bytF_size (n : Int) : (bytF .empty [n]).size = 1 := rfl
theorem sadd_ok {a b : ByteArray} (h : a.size + b.size ≤ 9000000000000000000) : sbin .add a b = some (.string (a ++ b)) := if_pos h
end Go.AL

namespace Go.AL
def bytF' (l : List Int) : ByteArray := l.foldl (fun r n => r.push (UInt8.ofNat n.toNat)) .empty
def letF (v : Int) : ByteArray := bytF' [97 + v]
def decF (n : Int) : ByteArray := bytF' [48 + n] ++ .empty
theorem bsz_lit (l : List UInt8) : ByteArray.size ⟨l.toArray⟩ = l.length := rfl
theorem letF_size (v : Int) : (letF v).size = 1 := rfl
theorem decF_size (v : Int) : (decF v).size = 1 := by simp [decF, bytF', ByteArray.size_append]
def joinF (out : ByteArray) (k : Nat) (t : ByteArray) : ByteArray := (if 0 < k then out ++ ⟨#[59]⟩ else out) ++ t
mutual
def textS : Stmt → ByteArray
  | .mk op x y n th el =>
    if op = 1 then (letF x ++ ⟨#[61]⟩) ++ decF n
    else if op = 2 then (letF x ++ ⟨#[61, 98, 111, 120, 32]⟩) ++ decF n
    else if op = 3 then (letF x ++ ⟨#[61]⟩) ++ letF y
    else if op = 4 then (letF x ++ ⟨#[61, 38]⟩) ++ letF y
    else if op = 5 then (letF x ++ ⟨#[61, 38, 109, 117, 116, 32]⟩) ++ letF y
    else if op = 6 then (letF x ++ ⟨#[61, 42]⟩) ++ letF y
    else if op = 7 then ((⟨#[42]⟩ ++ letF x) ++ ⟨#[61]⟩) ++ letF y
    else if op = 8 then ⟨#[100, 114, 111, 112, 32]⟩ ++ letF x
    else if op = 10 then (⟨#[108, 111, 111, 112, 123]⟩ ++ textA .empty 0 th) ++ ⟨#[125]⟩
    else (((⟨#[105, 102, 123]⟩ ++ textA .empty 0 th) ++ ⟨#[125, 123]⟩) ++ textA .empty 0 el) ++ ⟨#[125]⟩
def textA (out : ByteArray) (k : Nat) : List Stmt → ByteArray
  | [] => out
  | s :: l => textA (joinF out k (textS s)) (k + 1) l
end
def textL (l : List Stmt) : ByteArray := textA .empty 0 l
theorem textA_snoc : ∀ (l : List Stmt) (out : ByteArray) (k : Nat) (s : Stmt), textA out k (l ++ [s]) = joinF (textA out k l) (k + l.length) (textS s)
  | [], out, k, s => by simp only [List.nil_append, textA, List.length_nil, Nat.add_zero]
  | x :: l, out, k, s => by
    simp only [List.cons_append, textA, textA_snoc l, List.length_cons]
    rw [show k + 1 + l.length = k + (l.length + 1) from by omega]
theorem textL_succ (l : List Stmt) (k : Nat) (h : k < l.length) : textL (l.take (k + 1)) = joinF (textL (l.take k)) k (textS l[k]!) := by
  rw [take_succB _ _ h, textL, textA_snoc, List.length_take, Nat.min_eq_left (by omega), Nat.zero_add]; rfl
theorem textS_def (s : Stmt) : textS s = 
    if s.op = 1 then (letF s.x ++ ⟨#[61]⟩) ++ decF s.n
    else if s.op = 2 then (letF s.x ++ ⟨#[61, 98, 111, 120, 32]⟩) ++ decF s.n
    else if s.op = 3 then (letF s.x ++ ⟨#[61]⟩) ++ letF s.y
    else if s.op = 4 then (letF s.x ++ ⟨#[61, 38]⟩) ++ letF s.y
    else if s.op = 5 then (letF s.x ++ ⟨#[61, 38, 109, 117, 116, 32]⟩) ++ letF s.y
    else if s.op = 6 then (letF s.x ++ ⟨#[61, 42]⟩) ++ letF s.y
    else if s.op = 7 then ((⟨#[42]⟩ ++ letF s.x) ++ ⟨#[61]⟩) ++ letF s.y
    else if s.op = 8 then ⟨#[100, 114, 111, 112, 32]⟩ ++ letF s.x
    else if s.op = 10 then (⟨#[108, 111, 111, 112, 123]⟩ ++ textL s.th) ++ ⟨#[125]⟩
    else (((⟨#[105, 102, 123]⟩ ++ textL s.th) ++ ⟨#[125, 123]⟩) ++ textL s.el) ++ ⟨#[125]⟩ := by
  cases s; rw [textS]; rfl
mutual
theorem textS_size : ∀ s, (textS s).size + 1 ≤ 11 * cntS s
  | .mk op x y n th el => by
    have h1 := textA_size th .empty 0
    have h2 := textA_size el .empty 0
    have h3 : ByteArray.size .empty = 0 := rfl
    rw [textS]
    simp only [cntS]
    repeat' split
    all_goals simp only [ByteArray.size_append, bsz_lit, List.length_cons, List.length_nil, letF_size, decF_size]
    all_goals omega
theorem textA_size : ∀ (l : List Stmt) (out : ByteArray) (k : Nat), (textA out k l).size ≤ out.size + 11 * cntL l
  | [], out, k => by simp only [textA, cntL]; omega
  | s :: l, out, k => by
    have h1 := textS_size s
    have h2 := textA_size l (joinF out k (textS s)) (k + 1)
    have h3 : (joinF out k (textS s)).size ≤ out.size + 1 + (textS s).size := by
      unfold joinF; split <;> simp only [ByteArray.size_append, bsz_lit, List.length_cons, List.length_nil] <;> omega
    simp only [textA, cntL]
    omega
end
theorem textL_size (l : List Stmt) : (textL l).size ≤ 11 * cntL l := by
  have := textA_size l .empty 0
  have h3 : ByteArray.size .empty = 0 := rfl
  unfold textL; omega
theorem simple_bd {ts : List Int} {s : Stmt} (ht : typesOk ts = true) (h : simpleF ts s = true) : 1 ≤ s.op ∧ s.op ≤ 8 ∧ 0 ≤ s.x ∧ s.x ≤ 5 ∧ 0 ≤ s.y ∧ s.y ≤ 5 ∧ (s.op = 1 ∨ s.op = 2 → 0 ≤ s.n ∧ s.n ≤ 9) := by
  have hl := typesOk_len ht
  have hx := typeAt_pos ht s.x
  have hy := typeAt_pos ht s.y
  unfold simpleF at h
  dsimp only at h
  repeat' split at h
  all_goals (first | (simp only [decide_eq_true_eq] at h; omega) | (simp at h; done))
end Go.AL

namespace Go.AL
structure IsOk (nt np : Nat) (x : Iss) : Prop where
  p0 : 0 ≤ x.point
  p1 : x.point < np
  k : (x.kind = 1 ∧ 0 ≤ x.with_ ∧ x.with_ < nt) ∨ ((x.kind = 2 ∨ x.kind = 3) ∧ 0 ≤ x.with_ ∧ x.with_ < np)
end Go.AL

namespace Go.AL
structure Lon where
  point : Int
  unique : Bool
  var : Int
  deriving Inhabited, DecidableEq
end Go.AL

namespace Go.AL
theorem lt_bits {A n : Nat} (hv : ∀ v, A.testBit v = true → v < n) : A < 2 ^ n := Nat.lt_pow_two_of_testBit _ fun v h => by
  cases hq : Nat.testBit _ v with
  | false => rfl
  | true => have := hv v hq; omega
theorem sm_bits {A n : Nat} (hn : n ≤ 62) (hv : A < 2 ^ n) : Sm A := ⟨Nat.lt_of_lt_of_le hv (Nat.pow_le_pow_right (by decide) hn)⟩
structure FB (ts : List Int) (pts : List Pnt) (f : Flows ts pts) : Prop where
  la : f.Aa.length = pts.length
  lm : f.Am.length = pts.length
  ln : f.An.length = pts.length
  ll : f.Al.length = pts.length
  lp : f.Ap.length = pts.length
  bA : ∀ i : Nat, f.Aa[i]! < 2 ^ ts.length
  bM : ∀ i : Nat, f.Am[i]! < 2 ^ ts.length
  bN : ∀ i : Nat, f.An[i]! < 2 ^ ts.length
  bL : ∀ i : Nat, f.Al[i]! < 2 ^ ts.length
  bP : ∀ i : Nat, f.Ap[i]! < 2 ^ pts.length
  sA : ∀ i : Nat, Sm f.Aa[i]!
  sM : ∀ i : Nat, Sm f.Am[i]!
  sN : ∀ i : Nat, Sm f.An[i]!
  sL : ∀ i : Nat, Sm f.Al[i]!
  sP : ∀ i : Nat, Sm f.Ap[i]!
  rl : ∀ i, i < pts.length → (row6 f.Af i).length = 6
  rs : ∀ i, i < pts.length → ∀ z : Nat, Sm (row6 f.Af i)[z]!
  af : ∀ i, i < pts.length → afF pts f.An i = f.Al[i]!
  kp : ∀ i, i < pts.length → kpF ts pts[i]! f.Al[i]! (row6 f.Af i) < 2 ^ pts.length
  lo : ∀ i, i < pts.length → kpF ts pts[i]! f.Al[i]! (row6 f.Af i) &&& f.Ap[i]! < 2 ^ pts.length
  cf : ∀ i, i < pts.length → cfN ts pts f.Am f.Al f.Af f.Ap i < 2 ^ pts.length
theorem Flows.bnd {ts : List Int} {pts : List Pnt} (f : Flows ts pts) (w : WG ts pts) : FB ts pts f := by
  have hpl := w.pl
  have htl := w.tl
  have off : ∀ {A : List Nat} {n : Nat} {i : Nat}, A.length = pts.length → ¬ i < pts.length → A[i]! < 2 ^ n := fun {A n i} h hi => by
    rw [getElem!_neg A i (by omega)]; exact Nat.pow_pos (by decide)
  have bA : ∀ i : Nat, f.Aa[i]! < 2 ^ ts.length := fun i => by
    by_cases hi : i < pts.length
    · exact lt_bits fun v hv => ((f.ga.2 i hi v).1 hv).1
    · exact off f.ga.1 hi
  have bM : ∀ i : Nat, f.Am[i]! < 2 ^ ts.length := fun i => by
    by_cases hi : i < pts.length
    · exact lt_bits fun v hv => Mb_lt w ((f.gm.2 i hi v).1 hv)
    · exact off f.gm.1 hi
  have bN : ∀ i : Nat, f.An[i]! < 2 ^ ts.length := fun i => by
    by_cases hi : i < pts.length
    · exact lt_bits fun v hv => Nd_lt w ((f.gn.2 i hi v).1 hv)
    · exact off f.gn.1 hi
  have bL : ∀ i : Nat, f.Al[i]! < 2 ^ ts.length := fun i => by
    by_cases hi : i < pts.length
    · exact lt_bits fun v hv => by obtain ⟨k, _, h⟩ := (f.gl.2 i hi v).1 hv; exact Nd_lt w h
    · exact off f.gl.1 hi
  have bP : ∀ i : Nat, f.Ap[i]! < 2 ^ pts.length := fun i => by
    by_cases hi : i < pts.length
    · exact lt_bits fun v hv => (Pl_ln ((f.gp.2 i hi v).1 hv)).1
    · exact off f.gp.1 hi
  have rs : ∀ i, i < pts.length → ∀ z : Nat, (row6 f.Af i)[z]! < 2 ^ pts.length := fun i hi z => by
    by_cases hz : z < 6
    · rw [row6_at f.gf.1 hi hz]
      exact lt_bits fun v hv => (Fr_lt w ((f.gf.2 i z hi hz v).1 hv)).2.2
    · rw [getElem!_neg _ z (by rw [row6_len f.gf.1 hi]; exact hz)]; exact Nat.pow_pos (by decide)
  have kp : ∀ i, i < pts.length → kpF ts pts[i]! f.Al[i]! (row6 f.Af i) < 2 ^ pts.length := fun i hi => lt_bits fun v hv => by
    unfold kpF at hv
    rw [testBit_orL] at hv
    rcases hv with hv | ⟨z, hz, hv⟩
    · simp at hv
    · exact lt_of_bits (rs i hi _) hv
  have lo : ∀ i, i < pts.length → kpF ts pts[i]! f.Al[i]! (row6 f.Af i) &&& f.Ap[i]! < 2 ^ pts.length := fun i hi => Nat.and_lt_two_pow _ (bP i)
  refine ⟨f.ga.1, f.gm.1, f.gn.1, f.gl.1, f.gp.1, bA, bM, bN, bL, bP, fun i => sm_bits (by omega) (bA i), fun i => sm_bits (by omega) (bM i), fun i => sm_bits (by omega) (bN i), fun i => sm_bits (by omega) (bL i), fun i => sm_bits (by omega) (bP i),
    fun i hi => row6_len f.gf.1 hi, fun i hi z => sm_bits (by omega) (rs i hi z), fun i hi => ?_, kp, lo, fun i hi => cfN_lt w (bP i)⟩
  rw [goodL_ext f.gl (goodL_of w f.gn), mapR_get _ _ _ hi]
end Go.AL

namespace Go.AL
end Go.AL

namespace Go.AL
open Go.RowKit
set_option linter.unusedVariables false
section
variable {P : Program} {C : Ctx} {ι : Pl} {F : Nat → Prop} {T : Nat → Option AV} {H : Nat → Option (List AV)} {a : Act} {w : World} {o : Oper}
theorem zeroCells_list (z : Array Value) : ∀ n, (Builtin.zeroCells z n).toList = (List.replicate n z.toList).flatten := fun n => by
  have := made_list z n (n * z.size) rfl
  simpa [Builtin.zeroCells, madeCells] using this
end
section
variable {P : Program} {N : Nat} {Q : Exit → AS → Prop} {all : Array Oper} {rest : List Oper} {ts : List (Nat × AV)} {hs : List (Nat × Option (List AV))} {n : Nat} {z0 : Lo} {md : Md}
variable {d : Nat} {ty : TypeId} {pos : String} {af : Array Edge}
end
theorem Le.cut {ts : List (Nat × AV)} {hs : List (Nat × Option (List AV))} {n : Nat} {z0 : Lo} {i : Nat} {cs : List AV} (k : Nat) (hi : lkH hs i = some cs) :
    Le ⟨ts, hs, n, z0⟩ ⟨ts, (i, some (cs.take k)) :: hs, n, z0⟩ := by
  rintro C a w ⟨h0, ι, g, gh⟩
  have hσ : ∀ id c, lkH ((i, some (cs.take k)) :: hs) id = some c → ∃ c0, lkH hs id = some c0 ∧ (c = c0 ∨ c = c0.take k) := by
    intro id c h
    rw [lkH_c] at h
    split at h
    · rename_i e; subst e; cases h; exact ⟨cs, hi, .inr rfl⟩
    · exact ⟨c, h, .inl rfl⟩
  have car : Carry w (badOf C.X ι (lkH hs)) ι w (badOf C.X ι (lkH ((i, some (cs.take k)) :: hs))) ι := by
    refine ⟨fun b o' x h1 h2 => ⟨?_, h2⟩, fun _ _ h => h, fun _ => Nat.le_refl _⟩
    rintro (h | ⟨id, c, β, q1, q2⟩)
    · exact h1 (.inl h)
    · obtain ⟨c0, r, _⟩ := hσ id c q1
      exact h1 (.inr ⟨id, c0, β, r, q2⟩)
  refine ⟨h0, ι, ⟨g.df, g.sz, fun t av ht => ?_⟩, ⟨fun id c h => ?_, fun id id' c c' b β β' q1 q2 q3 q4 => ?_, gh.fr, gh.ex, gh.fresh⟩⟩
  · obtain ⟨y, hy, hr⟩ := g.tm t av ht
    exact ⟨y, hy, Rd.carry car _ _ hr⟩
  · obtain ⟨c0, r, e⟩ := hσ id c h
    rcases gh.obj id c0 r with ⟨h1, h2⟩ | ⟨b', β', arr', e', h1, h2, h3, h4, h5, h6⟩
    · refine .inl ⟨h1, ?_⟩
      rcases e with e | e
      · rw [e, h2]
      · rw [e, h2]; simp
    · refine .inr ⟨b', β', arr', e', h1, h2, ?_, ?_, h5, h6⟩
      · rcases e with e | e
        · rw [e]; exact h3
        · rw [e, List.length_take]; omega
      · have h7 := RdC.carryB car _ _ _ (fun o x hx => hx) h4
        rcases e with e | e
        · rw [e]; exact h7
        · rw [e]; exact RdC.take k h7
  · obtain ⟨_, r1, _⟩ := hσ id c q1
    obtain ⟨_, r2, _⟩ := hσ id' c' q2
    exact gh.sep _ _ _ _ _ _ _ r1 r2 q3 q4
section
variable {P : Program} {N : Nat} {Q : Exit → AS → Prop} {all : Array Oper} {rest : List Oper} {ts : List (Nat × AV)} {hs : List (Nat × Option (List AV))} {n : Nat} {z0 : Lo}
variable {d : Nat} {ty : TypeId} {pos : String} {af : Array Edge}
theorem rx_makeFuncFrzN {fn : Go.Fn} {cs : Array Operand} {i : Nat} {cc c : List AV} (t : Nat) (hx : lk ts t = some (.optr i 0)) (hH : lkH hs i = some cc) (hc : evL (lk ((t, .iptr cc) :: ts)) cs.toList = some c) (hN : Nat.blt d N = true)
    (kk : RW P N all Q .txt rest ⟨(d, .clos fn [] c) :: (t, .iptr cc) :: ts, (i, none) :: hs, n, z0⟩) : RW P N all Q .txt (⟨some d, .makeFunc fn #[] cs, ty, pos, af, none⟩ :: rest) ⟨ts, hs, n, z0⟩ :=
  rw_le (rx_makeFunc (f := []) (c := c) rfl hc hN (md' := .txt) kk) (Le.frzP hx hH)
end
section
variable {P : Program} {N : Nat} {Q : Exit → AS → Prop} {all : Array Oper} {rest : List Oper} {ts : List (Nat × AV)} {hs : List (Nat × Option (List AV))} {n : Nat} {z0 : Lo} {md : Md}
variable {d : Nat} {ty : TypeId} {pos : String} {af : Array Edge}
end
end Go.AL

namespace Go.AL
open Go.RowKit
set_option linter.unusedVariables false
set_option linter.unusedSimpArgs false
end Go.AL

namespace Go.AL
open Go.RowKit
set_option linter.unusedVariables false
set_option linter.unusedSimpArgs false
section
variable {P : Program} {C : Ctx} {ι : Pl} {T : Nat → Option AV} {F : Nat → Prop} {H : Nat → Option (List AV)} {a : Act} {w : World} {o : Oper}
theorem RdL_flat {bad : Nat → Prop} {zs : List Value} (h : zs.all (·.oneCell') = true) : ∀ n, RdL w bad ι (List.replicate n (zs.map AV.v)).flatten (List.replicate n zs).flatten
  | 0 => by simp [RdL]
  | n + 1 => by
    rw [List.replicate_succ, List.replicate_succ, List.flatten_cons, List.flatten_cons]
    exact RdL.append (RdL_v h) (RdL_flat h n)
theorem ef_clear (gh : HG C ι F H w) {t el : TypeId} {x : Operand} {id off n e : Nat} {cs : List AV} {zs : List Value}
    (ho : o.op = .call ⟨.builtin .clear, #[x], #[t]⟩) (hx : Rd w (badOf C.X ι H) ι (.own id off n e) (a.eval x)) (hd : o.dst = none)
    (ht : slOf P t = some el) (he : szOf P el = some e) (hz : zrOf P el = some zs) (hze : zs.length = e)
    (hH : H id = some cs) (h0 : 0 < n) (hl : off + n * e ≤ cs.length) :
    Ef P C ι F H a w o (.tup []) (upd H id (some (spl cs off (List.replicate n (zs.map AV.v)).flatten))) := by
  obtain ⟨i, z, h1, h2, h3, h4⟩ := zrOf_i hz
  have hu := slOf_u ht
  have hsz := szOf_i he h1
  simp only [Rd] at hx
  rcases hx with ⟨_, rfl, _⟩ | ⟨b, β, c, p1, p2, p3, p4⟩
  · omega
  have hlen : ((List.replicate n (zs.map AV.v)).flatten).length = n * e := by
    rw [List.length_flatten]; simp [hze]
  obtain ⟨w', q1, q2, q3⟩ := store_ok (P := P) gh hH p1 (off := off) (new := (List.replicate n (zs.map AV.v)).flatten) (by rw [hlen]; exact hl) (RdL_flat h4 n)
  have hr : (Builtin.clear_ #[t] o.type #[a.eval x]).run P w = .ok (.tuple #[]) w' := by
    rw [p2]
    cases n with
    | zero => omega
    | succ n =>
      have hzc : (Builtin.zeroCells z.cells (n + 1)).toList = (List.replicate (n + 1) zs).flatten := by rw [zeroCells_list, h3]
      simp [Builtin.clear_, run_und hu, zeroValue, typeInfo, h1, h2, hzc, q1]
  refine ⟨.value (.tuple #[]), .tuple #[], ι, w', ?_, .inl ⟨rfl, ?_⟩, q2, q3⟩
  · simp [execOp, ho, resolve, invoke, builtin, hr]
  · simp only [Rd]; exact ⟨[], rfl, by simp [RdV]⟩
end
section
variable {P : Program} {N : Nat} {Q : Exit → AS → Prop} {all : Array Oper} {rest : List Oper} {ts : List (Nat × AV)} {hs : List (Nat × Option (List AV))} {n : Nat} {z0 : Lo} {md : Md}
variable {d : Nat} {ty : TypeId} {pos : String} {af : Array Edge}
theorem rx_clear {t el id off m e : Nat} {x : Operand} {cs cs' : List AV} {zs : List Value} [ht : SlT P t el] [he : SzT P el e] [hz : ZrT P el zs]
    (hx : ev (lk ts) x = some (.own id off m e)) (hze : zs.length = e) (h0 : 0 < m) (hH : lkH hs id = some cs) (hl : off + m * e ≤ cs.length)
    (hcs : spl cs off (List.replicate m (zs.map AV.v)).flatten = cs') {md' : Md} [hmd : MdA md (rO x ++ [.inr id]) [.inr id] md'] (kk : RW P N all Q md' rest ⟨ts, (id, some cs') :: hs, n, z0⟩) :
    RW P N all Q md (⟨none, .call ⟨.builtin .clear, #[x], #[t]⟩, ty, pos, af, none⟩ :: rest) ⟨ts, hs, n, z0⟩ := by
  subst hcs
  exact rw_ef (rs := rO x ++ [.inr id]) (ws := [(id, some (spl cs off (List.replicate m (zs.map AV.v)).flatten))]) (n' := n) (out := .tup []) rfl (fun _ h => by cases h) (Nat.le_refl n) (.inl rfl)
    (fun C ι F T H a w ag hF g gh => ef_same (ef_clear gh rfl (ev_ok g (ag.l.ev.trans hx)) rfl ht.pf he.pf hz.pf hze ((ag.r.h id (by simp)).trans hH) h0 hl)) (by
      show RW P N all Q (md.add (rO x ++ [.inr id]) [.inr id]) rest ⟨ts, (id, some (spl cs off (List.replicate m (zs.map AV.v)).flatten)) :: hs, n, z0⟩
      rw [hmd.pf]; exact kk)
end
end Go.AL

namespace Go.AL
def delL {α : Type} (k : Nat) (xs : List α) : List α := xs.take k ++ xs.drop (k + 1)
def dropP (q : Prg) (k : Nat) : Prg := ⟨q.types, delL k q.body⟩
theorem delL_len {α : Type} {k : Nat} {xs : List α} (h : k < xs.length) : (delL k xs).length + 1 = xs.length := by
  unfold delL; rw [List.length_append, List.length_take, List.length_drop]; omega
theorem delL_map {α β : Type} (f : α → β) (k : Nat) (xs : List α) : (delL k xs).map f = delL k (xs.map f) := by
  unfold delL; rw [List.map_append, List.map_take, List.map_drop]
theorem delL_mem {α : Type} {k : Nat} {xs : List α} {x : α} (h : x ∈ delL k xs) : x ∈ xs := by
  unfold delL at h
  rcases List.mem_append.1 h with h | h
  · exact List.mem_of_mem_take h
  · exact List.mem_of_mem_drop h
theorem delL_filter {α : Type} [Inhabited α] [DecidableEq α] : ∀ {xs : List α} {k : Nat}, xs.Nodup → k < xs.length → delL k xs = xs.filter (fun x => decide (x ≠ xs[k]!))
  | x :: xs, 0, nd, _ => by
    obtain ⟨h1, h2⟩ := List.nodup_cons.1 nd
    show xs.drop 0 = _
    rw [List.drop_zero, List.filter_cons, if_neg (by simp)]
    refine (List.filter_eq_self.2 fun y hy => ?_).symm
    exact decide_eq_true fun e => h1 (by rw [← (by simpa using e : y = x)]; exact hy)
  | x :: xs, k + 1, nd, hk => by
    obtain ⟨h1, h2⟩ := List.nodup_cons.1 nd
    have hk' : k < xs.length := by simpa using hk
    have ih := delL_filter h2 hk'
    have e : (x :: xs)[k + 1]! = xs[k]! := by simp
    have hx : x ≠ xs[k]! := fun q => h1 (by rw [q]; exact getB_mem _ _ hk')
    show x :: (xs.take k ++ xs.drop (k + 1)) = _
    rw [e, List.filter_cons, if_pos (decide_eq_true hx), ← ih]; rfl
theorem cntL_delL : ∀ (xs : List Stmt) (k : Nat), cntL (delL k xs) ≤ cntL xs
  | [], k => by simp [delL, cntL]
  | x :: xs, 0 => by simp [delL, cntL]
  | x :: xs, k + 1 => by
    have := cntL_delL xs k
    unfold delL at this ⊢
    simp only [List.take_succ_cons, List.drop_succ_cons, List.cons_append, cntL]; omega
theorem dropP_valid {q : Prg} {k : Nat} (h : validF q = true) : validF (dropP q k) = true := by
  unfold validF at h ⊢
  simp only [Bool.and_eq_true, decide_eq_true_eq] at h ⊢
  obtain ⟨⟨h1, h2⟩, h3⟩ := h
  refine ⟨⟨h1, ?_⟩, Nat.le_trans (cntL_delL _ _) h3⟩
  rw [okL_eq, List.all_eq_true] at h2 ⊢
  exact fun x hx => h2 x (delL_mem hx)
structure AtS (b : List Stmt) (x : Int) (k : Nat) : Prop where
  lt : k < b.length
  lo : (npL (b.take k) : Int) ≤ x
  hi : k + 1 < b.length → x < npL (b.take (k + 1))
theorem AtS.ex {b : List Stmt} {x : Int} : ∀ d n, b.length - n ≤ d → n < b.length → (npL (b.take n) : Int) ≤ x → ∃ k, AtS b x k
  | 0, n, h, hn, _ => by omega
  | d + 1, n, h, hn, hx => by
    by_cases h1 : n + 1 < b.length
    · by_cases h2 : x < npL (b.take (n + 1))
      · exact ⟨n, hn, hx, fun _ => h2⟩
      · exact AtS.ex d (n + 1) (by omega) h1 (by omega)
    · exact ⟨n, hn, hx, fun h => absurd h h1⟩
inductive RepS (FI : Prg → List Iss → Prop) : Prg → List Int → List Int → Prg → List Int → Prop
  | done {q : Prg} {l m : List Int} : FI q [] → RepS FI q l m q m
  | step {q q' : Prg} {l m m' : List Int} {x : Iss} {L : List Iss} {k : Nat} : FI q (x :: L) → AtS q.body x.point k → RepS FI (dropP q k) (delL k l) (m ++ [l[k]!]) q' m' → RepS FI q l m q' m'
theorem RepS.ex {FI : Prg → List Iss → Prop} (h1 : ∀ q, validF q = true → ∃ L, FI q L ∧ (∀ x ∈ L, 0 ≤ x.point) ∧ (q.body = [] → L = [])) :
    ∀ n q l m, q.body.length ≤ n → validF q = true → ∃ q' m', RepS FI q l m q' m'
  | n, q, l, m, hn, hv => by
    obtain ⟨L, hF, hp, he⟩ := h1 q hv
    cases L with
    | nil => exact ⟨q, m, .done hF⟩
    | cons x L =>
      have hne : q.body ≠ [] := fun e => by have := he e; cases this
      have hlen : 0 < q.body.length := List.length_pos_iff.2 hne
      obtain ⟨k, hk⟩ := AtS.ex (b := q.body) (x := x.point) q.body.length 0 (by omega) hlen (by have := hp x List.mem_cons_self; simpa [npL] using this)
      have hd := delL_len hk.lt
      cases n with
      | zero => omega
      | succ n =>
        obtain ⟨q', m', h⟩ := RepS.ex h1 n (dropP q k) (delL k l) (m ++ [l[k]!]) (by show (delL k q.body).length ≤ n; omega) (dropP_valid hv)
        exact ⟨q', m', .step hF hk h⟩
theorem RepS.fin {FI : Prg → List Iss → Prop} {q q' : Prg} {l m m' : List Int} (h : RepS FI q l m q' m') : validF q = true → FI q' [] ∧ validF q' = true ∧ q'.types = q.types ∧ cntL q'.body ≤ cntL q.body ∧ m'.length + q'.body.length = m.length + q.body.length := by
  induction h with
  | done h => exact fun hv => ⟨h, hv, rfl, Nat.le_refl _, rfl⟩
  | @step q q' l m m' x L k _ hk _ ih =>
    intro hv
    obtain ⟨h1, h2, h3, h4, h5⟩ := ih (dropP_valid hv)
    have hd := delL_len hk.lt
    refine ⟨h1, h2, h3, Nat.le_trans h4 (cntL_delL _ _), ?_⟩
    rw [h5, List.length_append, List.length_singleton]
    show m.length + 1 + (delL k q.body).length = _
    omega
def lfN (n : Nat) (m : List Int) : List Int := ((List.range n).filter (fun (i : Nat) => decide (¬ (i : Int) ∈ m))).map (fun (i : Nat) => (i : Int))
theorem lfN_nd (n : Nat) (m : List Int) : (lfN n m).Nodup := by
  unfold lfN
  refine List.Pairwise.map _ (fun a b h => ?_) (List.Pairwise.filter _ List.nodup_range)
  omega
theorem lfN_snoc (n : Nat) (m : List Int) {k : Nat} (hk : k < (lfN n m).length) : delL k (lfN n m) = lfN n (m ++ [(lfN n m)[k]!]) := by
  rw [delL_filter (lfN_nd n m) hk]
  generalize (lfN n m)[k]! = z
  unfold lfN
  rw [List.filter_map, List.filter_filter]
  congr 1
  apply List.filter_congr
  intro i _
  rw [Bool.eq_iff_iff]
  simp only [Function.comp, Bool.and_eq_true, decide_eq_true_eq, List.mem_append, List.mem_singleton]
  constructor
  · rintro ⟨h1, h2⟩ h; exact h.elim h2 h1
  · exact fun h => ⟨fun e => h (.inr e), fun e => h (.inl e)⟩
theorem RepS.left {FI : Prg → List Iss → Prop} {p q q' : Prg} {l m m' : List Int} (h : RepS FI q l m q' m') : l = lfN p.body.length m → q.body = l.map (fun i => p.body[i.toNat]!) → q'.body = (lfN p.body.length m').map (fun i => p.body[i.toNat]!) := by
  induction h with
  | done _ => rintro rfl h; exact h
  | @step q q' l m m' x L k _ hk _ ih =>
    rintro rfl h
    have hlt := hk.lt
    have hl : q.body.length = (lfN p.body.length m).length := by rw [h, List.length_map]
    refine ih (lfN_snoc _ _ (by omega)) ?_
    show delL k q.body = _
    rw [delL_map, ← h]
theorem RepS.empty {FI : Prg → List Iss → Prop} {q q' : Prg} {l m' : List Int} (h : RepS FI q l [] q' m') (hv : validF q = true) : ∃ L, FI q L ∧ (m' = [] ↔ L = []) := by
  cases h with
  | done h => exact ⟨[], h, by simp⟩
  | @step _ _ _ _ _ x L k hF hk hr =>
    refine ⟨x :: L, hF, ?_⟩
    have h5 := (RepS.fin hr (dropP_valid hv)).2.2.2.2
    have hb : q'.body.length ≤ (dropP q k).body.length := by
      clear h5 hF
      generalize dropP q k = z at hr
      generalize delL k l = l1 at hr
      generalize ([] : List Int) ++ [l[k]!] = m1 at hr
      induction hr with
      | done _ => exact Nat.le_refl _
      | @step q q' l m m' x L k _ hk2 _ ih =>
        have := delL_len hk2.lt
        have hh : (dropP q k).body.length + 1 = q.body.length := this
        omega
    constructor
    · intro e; rw [e] at h5; simp at h5; omega
    · intro e; cases e
end Go.AL
namespace Go.AL
end Go.AL

namespace Go.AL
open Go.RowKit
set_option linter.unusedVariables false
set_option linter.unusedSimpArgs false
section
variable {P : Program} {N : Nat} {Q : Exit → AS → Prop} {all : Array Oper} {rest : List Oper} {ts : List (Nat × AV)} {hs : List (Nat × Option (List AV))} {n : Nat} {z0 : Lo} {md : Md}
variable {d : Nat} {ty : TypeId} {pos : String} {af : Array Edge}
theorem run_eqNil (w : World) (t el : TypeId) (hu : P.underlying t = some (.slice el)) (a : Option Addr) (m c : Nat) : (binOp .eql t (.slice a m c) (.slice none 0 0)).run P w = .ok (.bool a.isNone) w := by
  have h0 : ∀ d : Nat, (Op.equalIn (d + 1) t (.slice a m c) (.slice none 0 0)).run P w = .ok a.isNone w := fun d => by
    cases a <;> simp [Op.equalIn, run_und hu]
  have h := h0 9999
  simp only [binOp]
  simp [Op.equal, Op.maxDepth, h]
theorem rx_eqNil {t t' el : TypeId} {x : Operand} {m : Nat} {cs : List AV} [ht : SlT P t el] (hx : ev (lk ts) x = some (.imm m cs)) (hN : Nat.blt d N = true)
    (kk : ∀ b : Bool, (b = true → m = 0) → RW P N all Q .txt rest ⟨(d, .v (.bool b)) :: ts, hs, n, z0⟩) : RW P N all Q .txt (⟨some d, .binOp .eql t x (.const (.slice none 0 0)) t', ty, pos, af, none⟩ :: rest) ⟨ts, hs, n, z0⟩ := by
  rintro C a w hCN ⟨h0, ι, g, gh⟩
  refine wpList_plain rfl (fun K hK => ?_)
  have h1 := ev_ok g hx
  simp only [Rd] at h1
  obtain ⟨a', c, h2, h3⟩ := h1
  have hu := slOf_u ht.pf
  have hb : a'.isNone = true → m = 0 := fun hn => by
    rcases h3 with h3 | ⟨b, o, _, rfl, _⟩
    · exact h3
    · cases hn
  have hg : (eqGuard .eql t x (.const (.slice none 0 0)) (.slice a' m c) (.slice none 0 0)).run P w = .ok () w := by simp [eqGuard]
  have hr : (execOp a.eval ⟨some d, .binOp .eql t x (.const (.slice none 0 0)) t', ty, pos, af, none⟩).run P w = .ok (.value (.bool a'.isNone)) w := by
    have e2 : a.eval (.const (.slice none 0 0)) = .slice none 0 0 := rfl
    simp only [execOp, h2, e2, Sem.run_bind, hg, Result.andThen_ok, run_eqNil w t el hu, Sem.run_pure]
  simp only [Oper.wp, hr, Oper.upon]
  refine hK _ _ (kk a'.isNone hb C _ _ hCN ⟨h0, ι, ?_, gh⟩)
  show TG C ι (lk ((d, AV.v (.bool a'.isNone)) :: ts)) _ _ _
  rw [lk_cons]
  exact g.put (by have := ltb hN; omega) (by simp [Rd])
end
theorem sC_tail {α : Type} {f : α → List AV} {e : Nat} [h : FlT f e] {hs : List (Nat × Option (List AV))} {xs : List α} {i k n : Nat} (hH : lkH hs i = some (flat f xs)) (hn : n = xs.length - k) : sCells (lkH hs) e (kAV (.own i (0 + k * e) n e)) = some (n, flat f (xs.drop k)) := by
  show ((lkH hs i).bind fun cs => if n * e ≤ (cs.drop (0 + k * e)).length then some (n, (cs.drop (0 + k * e)).take (n * e)) else none) = _
  rw [hH, Option.bind_some, Nat.zero_add]
  have h1 : (flat f xs).length = xs.length * e := flat_length f xs
  have h3 : (flat f xs).drop (k * e) = flat f (xs.drop k) := by
    have h4 : flat f xs = flat f (xs.take k) ++ flat f (xs.drop k) := by rw [flat_append, List.take_append_drop]
    have h5 : (flat f (xs.take k)).length = (xs.take k).length * e := flat_length f _
    by_cases hk : k ≤ xs.length
    · rw [h4, ← show (flat f (xs.take k)).length = k * e from by rw [h5, List.length_take]; congr 1; omega, List.drop_left]
    · rw [List.drop_of_length_le (by rw [h1]; exact Nat.mul_le_mul_right _ (by omega)), List.drop_of_length_le (by omega)]; rfl
  rw [h3]
  have h2 : (flat f (xs.drop k)).length = (xs.length - k) * e := by rw [flat_length f (e := e), List.length_drop]
  rw [h2, hn, if_pos (Nat.le_refl _), List.take_of_length_le (by rw [h2]; exact Nat.le_refl _)]
theorem bnd_to {T : Nat → Option AV} {x : Operand} {dd : Nat} {k : IntKind} {m : Int} {h : Nat} (hx : ev T x = some (.v (.int k m))) (e : m = (h : Int)) : bndA T (some x) dd = some h := by
  simp only [bndA, hx]; rw [if_pos (by omega)]; congr 1; omega
end Go.AL

namespace Go.AL
end Go.AL

namespace Go.AL
end Go.AL

namespace Go.AL
structure Bnd where
  var : Int
  loan : Int
  src : Int
  deriving Inhabited, DecidableEq
structure WT (ts : List Int) (pts : List Pnt) : Prop where
  mv : ∀ i, i < pts.length → pts[i]!.op = 3 → ts[pts[i]!.x.toNat]! = ts[pts[i]!.y.toNat]! ∧ pts[i]!.x ≠ pts[i]!.y
  ln : ∀ i, i < pts.length → pts[i]!.op = 4 ∨ pts[i]!.op = 5 → isRef ts[pts[i]!.x.toNat]! = true ∧ pts[i]!.x ≠ pts[i]!.y
def PtY (ts : List Int) (x : Pnt) : Prop := (x.op = 3 → ts[x.x.toNat]! = ts[x.y.toNat]! ∧ x.x ≠ x.y) ∧ (x.op = 4 ∨ x.op = 5 → isRef ts[x.x.toNat]! = true ∧ x.x ≠ x.y)
theorem typeAt_get {ts : List Int} {v : Int} (h : 0 < typeAt ts v) : typeAt ts v = ts[v.toNat]! := by
  unfold typeAt at h ⊢
  split at h
  · rename_i c; rw [if_pos c]
  · omega
theorem simple_ty {ts : List Int} {s : Stmt} (h : simpleF ts s = true) : (s.op = 3 → ts[s.x.toNat]! = ts[s.y.toNat]! ∧ s.x ≠ s.y) ∧ (s.op = 4 ∨ s.op = 5 → isRef ts[s.x.toNat]! = true ∧ s.x ≠ s.y) := by
  unfold simpleF at h
  dsimp only at h
  refine ⟨fun h3 => ?_, fun h4 => ?_⟩
  · rw [h3] at h
    simp only [show ¬ (3 : Int) = 1 by decide, show ¬ (3 : Int) = 2 by decide, if_false, if_true] at h
    split at h
    · cases h
    · simp only [decide_eq_true_eq] at h
      refine ⟨?_, h.2.2⟩
      rw [← typeAt_get h.2.1, h.1, typeAt_get (by omega)]
  · rcases h4 with h4 | h4 <;> rw [h4] at h
    · simp only [show ¬ (4 : Int) = 1 by decide, show ¬ (4 : Int) = 2 by decide, show ¬ (4 : Int) = 3 by decide, if_false, if_true] at h
      split at h
      · cases h
      · simp only [decide_eq_true_eq] at h
        refine ⟨?_, h.2.2⟩
        rw [← typeAt_get (by omega), h.1]; rfl
    · simp only [show ¬ (5 : Int) = 1 by decide, show ¬ (5 : Int) = 2 by decide, show ¬ (5 : Int) = 3 by decide, show ¬ (5 : Int) = 4 by decide, if_false, if_true] at h
      split at h
      · cases h
      · simp only [decide_eq_true_eq] at h
        refine ⟨?_, h.2.2⟩
        rw [← typeAt_get (by omega), h.1]; rfl
theorem PtY.no {ts : List Int} {x : Pnt} (h : 9 ≤ x.op) : PtY ts x := ⟨fun e => by omega, fun e => by omega⟩
mutual
theorem ptS_ty {ts : List Int} : ∀ (s : Stmt) (d b : Nat), okS ts d s = true → ∀ x ∈ ptS b s, PtY ts x
  | .mk op x y n th el, d, b, h => by
    simp only [okS] at h
    split at h
    · rename_i hop
      simp only [Bool.and_eq_true] at h
      have hs := simple_ty h.2
      simp only [Stmt.op, Stmt.x, Stmt.y] at hs
      simp only [ptS, hop.1, hop.2, if_false, List.mem_singleton]
      rintro z rfl
      exact hs
    · rename_i hop
      cases d with
      | zero => cases h
      | succ d =>
        simp only [Bool.and_eq_true, decide_eq_true_eq] at h
        obtain ⟨⟨⟨_, _⟩, h1⟩, h2⟩ := h
        by_cases h9 : op = 9
        · subst h9
          simp only [ptS, if_true, List.mem_append, List.mem_singleton]
          rintro z (((rfl | hz) | rfl) | hz)
          · exact PtY.no (by simp)
          · exact ptL_ty th d (b + 1) h1 z hz
          · exact PtY.no (by simp)
          · exact ptL_ty el d (b + 2 + npL th) h2 z hz
        · have h10 : op = 10 := by omega
          subst h10
          simp only [ptS, if_true, show ((10 : Int) = 9) = False by simp, if_false, List.mem_append, List.mem_singleton]
          rintro z ((rfl | hz) | rfl)
          · exact PtY.no (by simp)
          · exact ptL_ty th d (b + 1) h1 z hz
          · exact PtY.no (by simp)
theorem ptL_ty {ts : List Int} : ∀ (l : List Stmt) (d b : Nat), okL ts d l = true → ∀ x ∈ ptL b l, PtY ts x
  | [], d, b, h => by simp [ptL]
  | s :: l, d, b, h => by
    simp only [okL, Bool.and_eq_true] at h
    simp only [ptL, List.mem_append]
    rintro x (hx | hx)
    · exact ptS_ty s d b h.1 x hx
    · exact ptL_ty l d (b + npS s) h.2 x hx
end
theorem WT.of_valid {p : Prg} (h : validF p = true) : WT p.types (ptsF p) := by
  unfold validF at h
  simp only [Bool.and_eq_true, decide_eq_true_eq] at h
  obtain ⟨⟨_, hl⟩, _⟩ := h
  have key : ∀ i, i < (ptsF p).length → PtY p.types (ptsF p)[i]! := by
    intro i hi
    have hm := getB_mem _ i hi
    unfold ptsF at hm
    rw [List.mem_append, List.mem_singleton] at hm
    rcases hm with hm | hm
    · exact ptL_ty p.body 4 0 hl _ hm
    · unfold ptsF; rw [hm]; exact PtY.no (by simp)
  exact ⟨fun i hi => (key i hi).1, fun i hi => (key i hi).2⟩
structure BOk (nt n : Nat) (b : Bnd) : Prop where
  v : 0 ≤ b.var ∧ b.var < nt
  k : (0 ≤ b.loan ∧ b.loan < n ∧ b.src = -1) ∨ (b.loan = -1 ∧ 0 ≤ b.src ∧ b.src < nt ∧ b.src ≠ b.var)
end Go.AL

namespace Go.AL
structure Tg where
  id : Int
  uq : Bool
  deriving Inhabited, DecidableEq
structure Cl where
  val : Int
  alive : Bool
  next : Int
  stk : List Tg
  deriving Inhabited, DecidableEq
structure Pt where
  cell : Int
  tag : Int
  deriving Inhabited, DecidableEq
structure Sl where
  set : Bool
  num : Int
  ptr : Pt
  deriving Inhabited, DecidableEq
def cTg (t : Tg) : List AV := [iv t.id, bv t.uq]
def cCl (c : Cl) : List AV := [iv c.val, bv c.alive, iv c.next, sl cTg c.stk]
def cSl (s : Sl) : List AV := [bv s.set, iv s.num, iv s.ptr.cell, iv s.ptr.tag]
instance : FlT cTg 2 := ⟨fun _ => rfl⟩
instance : FlT cCl 4 := ⟨fun _ => rfl⟩
instance : FlT cSl 4 := ⟨fun _ => rfl⟩
instance : FE cTg (fun t => [iv t.id, bv t.uq]) := ⟨fun _ => rfl⟩
instance : FE cCl (fun c => [iv c.val, bv c.alive, iv c.next, sl cTg c.stk]) := ⟨fun _ => rfl⟩
instance : FE cSl (fun s => [bv s.set, iv s.num, iv s.ptr.cell, iv s.ptr.tag]) := ⟨fun _ => rfl⟩
instance (t : Tg) : Pur (cTg t) := ⟨rfl⟩
instance (c : Cl) : Pur (cCl c) := ⟨by show (true && (true && (true && ((sl cTg c.stk).pur && true)))) = true; rw [pur_sl]; rfl⟩
instance (s : Sl) : Pur (cSl s) := ⟨rfl⟩
abbrev aTg (t : Tg) : AV := .agg [iv t.id, bv t.uq]
abbrev aCl (c : Cl) : AV := .agg [iv c.val, bv c.alive, iv c.next, sl cTg c.stk]
abbrev aPt (p : Pt) : AV := .agg [iv p.cell, iv p.tag]
abbrev aSl (s : Sl) : AV := .agg [bv s.set, iv s.num, iv s.ptr.cell, iv s.ptr.tag]
structure OkC (c : Cl) : Prop where
  v : 0 ≤ c.val ∧ c.val ≤ 9
  n : 1 ≤ c.next ∧ c.next ≤ 1000
  l : 1 ≤ c.stk.length ∧ c.stk.length ≤ 200
  u : c.stk[0]!.uq = true
  i : ∀ t ∈ c.stk, 0 ≤ t.id ∧ t.id < c.next
  d : (c.stk.map (·.id)).Nodup
structure OkM (m : List Cl) : Prop where
  l : m.length ≤ 200
  c : ∀ c ∈ m, OkC c
def tgIx (stk : List Tg) (id : Int) : Int := match stk.findIdx? (fun t => decide (t.id = id)) with | some k => k | none => -1
theorem tgIx_bd (stk : List Tg) (id : Int) : -1 ≤ tgIx stk id ∧ tgIx stk id < stk.length := by
  unfold tgIx
  split
  · rename_i k h
    obtain ⟨h1, _⟩ := List.findIdx?_eq_some_iff_getElem.1 h
    omega
  · omega
theorem tgIx_at {stk : List Tg} {id : Int} (h : 0 ≤ tgIx stk id) : stk[(tgIx stk id).toNat]!.id = id := by
  unfold tgIx at h ⊢
  split
  · rename_i k hk
    obtain ⟨h1, h2, _⟩ := List.findIdx?_eq_some_iff_getElem.1 hk
    rw [Int.toNat_natCast, getB _ _ h1]
    simpa using h2
  · rename_i hk; rw [hk] at h; dsimp only at h; omega
theorem tgIx_none {stk : List Tg} {id : Int} : tgIx stk id < 0 ↔ ∀ t ∈ stk, t.id ≠ id := by
  unfold tgIx
  split
  · rename_i k hk
    obtain ⟨h1, h2, _⟩ := List.findIdx?_eq_some_iff_getElem.1 hk
    refine ⟨fun h => by omega, fun h => ?_⟩
    exact absurd (by simpa using h2) (h _ (List.getElem_mem h1))
  · rename_i hk
    rw [List.findIdx?_eq_none_iff] at hk
    exact ⟨fun _ t ht => by simpa using hk t ht, fun _ => by omega⟩
def tchS (stk : List Tg) (k : Nat) (wr : Bool) : List Tg := if wr = true then stk.take (k + 1) else stk.take (k + 1) ++ (stk.drop (k + 1)).filter (fun t => !t.uq)
def tchK (m : List Cl) (x : Pt) (wr : Bool) : Int :=
  if ¬ (0 ≤ x.cell ∧ x.cell < m.length) then 4
  else if m[x.cell.toNat]!.alive = false then 1
  else if tgIx m[x.cell.toNat]!.stk x.tag < 0 then 2
  else if wr = true ∧ m[x.cell.toNat]!.stk[(tgIx m[x.cell.toNat]!.stk x.tag).toNat]!.uq = false then 3
  else 0
def tchC (c : Cl) (x : Pt) (wr : Bool) : Cl := { c with stk := tchS c.stk (tgIx c.stk x.tag).toNat wr }
def tchM (m : List Cl) (x : Pt) (wr : Bool) : List Cl := if tchK m x wr = 0 then m.set x.cell.toNat (tchC m[x.cell.toNat]! x wr) else m
def rdN (m : List Cl) (x : Pt) : Int := if tchK m x false = 0 then m[x.cell.toNat]!.val else 0
def wrK (m : List Cl) (x : Pt) (v : Int) : Int := if 0 ≤ v ∧ v ≤ 9 then tchK m x true else 4
def wrM (m : List Cl) (x : Pt) (v : Int) : List Cl := if wrK m x v = 0 then m.set x.cell.toNat { tchC m[x.cell.toNat]! x true with val := v } else m
def frM (m : List Cl) (x : Pt) : List Cl := if tchK m x true = 0 then m.set x.cell.toNat { tchC m[x.cell.toNat]! x true with alive := false } else m
def full (c : Cl) : Prop := c.stk.length = 200 ∨ c.next = 1000
instance (c : Cl) : Decidable (full c) := by unfold full; infer_instance
def lnK (m : List Cl) (x : Pt) (u : Bool) : Int := if tchK m x u = 0 then (if full (tchC m[x.cell.toNat]! x u) then 4 else 0) else tchK m x u
def psh (c : Cl) (u : Bool) : Cl := { c with stk := c.stk ++ [⟨c.next, u⟩], next := c.next + 1 }
def lnM (m : List Cl) (x : Pt) (u : Bool) : List Cl := if lnK m x u = 0 then m.set x.cell.toNat (psh (tchC m[x.cell.toNat]! x u) u) else m
def lnP (m : List Cl) (x : Pt) (u : Bool) : Pt := if lnK m x u = 0 then ⟨x.cell, m[x.cell.toNat]!.next⟩ else ⟨0, 0⟩
def nwC (v : Int) : Cl := ⟨v, true, 1, [⟨0, true⟩]⟩
theorem tchS_sub {stk : List Tg} {k : Nat} {wr : Bool} : (tchS stk k wr).Sublist stk := by
  unfold tchS
  split
  · exact List.take_sublist _ _
  · have h := List.Sublist.append (List.Sublist.refl (stk.take (k + 1))) (List.filter_sublist (l := stk.drop (k + 1)) (p := fun t => !t.uq))
    rwa [List.take_append_drop] at h
theorem tchS_head {stk : List Tg} {k : Nat} {wr : Bool} (h : 0 < stk.length) : (tchS stk k wr)[0]! = stk[0]! ∧ 0 < (tchS stk k wr).length := by
  cases stk with
  | nil => simp at h
  | cons a l =>
    unfold tchS
    split <;> simp
theorem OkC.tch {c : Cl} (h : OkC c) (x : Pt) (wr : Bool) : OkC (tchC c x wr) := by
  have hs := tchS_sub (stk := c.stk) (k := (tgIx c.stk x.tag).toNat) (wr := wr)
  have hh := tchS_head (k := (tgIx c.stk x.tag).toNat) (wr := wr) (stk := c.stk) (by have := h.l; omega)
  refine ⟨h.v, h.n, ⟨hh.2, Nat.le_trans hs.length_le h.l.2⟩, ?_, fun t ht => h.i t (hs.subset ht), (hs.map _).nodup h.d⟩
  show (tchS c.stk (tgIx c.stk x.tag).toNat wr)[0]!.uq = true
  rw [hh.1]; exact h.u
theorem OkC.psh {c : Cl} (h : OkC c) (u : Bool) (hf : ¬ full c) : OkC (psh c u) := by
  have hl := h.l
  have hn := h.n
  unfold full at hf
  refine ⟨h.v, by show 1 ≤ c.next + 1 ∧ c.next + 1 ≤ 1000; omega, by show 1 ≤ (c.stk ++ [_]).length ∧ (c.stk ++ [_]).length ≤ 200; rw [List.length_append, List.length_singleton]; omega, ?_, fun t ht => ?_, ?_⟩
  · show (c.stk ++ [_])[0]!.uq = true
    have h1 := h.u
    rw [getB _ _ (by omega)] at h1
    rw [getB _ _ (by rw [List.length_append]; omega), List.getElem_append_left (by omega)]; exact h1
  · rcases List.mem_append.1 ht with ht | ht
    · have := h.i t ht; show 0 ≤ t.id ∧ t.id < c.next + 1; omega
    · rw [List.mem_singleton] at ht; subst ht; show 0 ≤ c.next ∧ c.next < c.next + 1; omega
  · show ((c.stk ++ [_]).map _).Nodup
    rw [List.map_append, List.nodup_append]
    refine ⟨h.d, by simp, fun a ha b hb => ?_⟩
    simp only [List.map_cons, List.map_nil, List.mem_singleton] at hb
    obtain ⟨t, ht, rfl⟩ := List.mem_map.1 ha
    have := h.i t ht
    omega
theorem OkC.nw {v : Int} (h : 0 ≤ v ∧ v ≤ 9) : OkC (nwC v) := ⟨h, ⟨by show (1 : Int) ≤ 1; decide, by show (1 : Int) ≤ 1000; decide⟩, ⟨by show 1 ≤ 1; decide, by show 1 ≤ 200; decide⟩, rfl, by simp [nwC], by simp [nwC]⟩
theorem OkM.set {m : List Cl} (h : OkM m) {k : Nat} {c : Cl} (hc : OkC c) : OkM (m.set k c) :=
  ⟨by rw [List.length_set]; exact h.l, fun x hx => (List.mem_or_eq_of_mem_set hx).elim (h.c x) (fun e => e ▸ hc)⟩
theorem OkM.at {m : List Cl} (h : OkM m) {k : Nat} (hk : k < m.length) : OkC m[k]! := h.c _ (getB_mem _ _ hk)
theorem tchK_in {m : List Cl} {x : Pt} {wr : Bool} (h : tchK m x wr ≠ 4) : 0 ≤ x.cell ∧ x.cell < m.length ∧ x.cell.toNat < m.length := by
  unfold tchK at h
  split at h
  · exact absurd rfl h
  · omega
theorem tchK_0 {m : List Cl} {x : Pt} {wr : Bool} (h : tchK m x wr = 0) : 0 ≤ x.cell ∧ x.cell < m.length ∧ x.cell.toNat < m.length := tchK_in (by rw [h]; decide)
theorem OkM.tch {m : List Cl} (h : OkM m) (x : Pt) (wr : Bool) : OkM (tchM m x wr) := by
  unfold tchM; split
  · rename_i hk; exact h.set ((h.at (tchK_0 hk).2.2).tch x wr)
  · exact h
theorem OkM.wr {m : List Cl} (h : OkM m) (x : Pt) (v : Int) : OkM (wrM m x v) := by
  unfold wrM
  by_cases hk : wrK m x v = 0
  · rw [if_pos hk]
    unfold wrK at hk
    by_cases hv : 0 ≤ v ∧ v ≤ 9
    · rw [if_pos hv] at hk
      have h1 := (h.at (tchK_0 hk).2.2).tch x true
      exact h.set ⟨hv, h1.n, h1.l, h1.u, h1.i, h1.d⟩
    · rw [if_neg hv] at hk; cases hk
  · rw [if_neg hk]; exact h
theorem OkM.fr {m : List Cl} (h : OkM m) (x : Pt) : OkM (frM m x) := by
  unfold frM; split
  · rename_i hk
    have h1 := (h.at (tchK_0 hk).2.2).tch x true
    exact h.set ⟨h1.v, h1.n, h1.l, h1.u, h1.i, h1.d⟩
  · exact h
theorem OkM.ln {m : List Cl} (h : OkM m) (x : Pt) (u : Bool) : OkM (lnM m x u) := by
  unfold lnM
  by_cases hk : lnK m x u = 0
  · rw [if_pos hk]
    unfold lnK at hk
    by_cases h0 : tchK m x u = 0
    · rw [if_pos h0] at hk
      by_cases hf : full (tchC m[x.cell.toNat]! x u)
      · rw [if_pos hf] at hk; cases hk
      · exact h.set (((h.at (tchK_0 h0).2.2).tch x u).psh u hf)
    · rw [if_neg h0] at hk; exact absurd hk h0
  · rw [if_neg hk]; exact h
theorem OkM.nw {m : List Cl} (h : OkM m) {v : Int} (hv : 0 ≤ v ∧ v ≤ 9) (hl : m.length < 200) : OkM (m ++ [nwC v]) :=
  ⟨by rw [List.length_append, List.length_singleton]; omega, fun c hc => (List.mem_append.1 hc).elim (h.c c) (fun h => by rw [List.mem_singleton.1 h]; exact OkC.nw hv)⟩
end Go.AL

namespace Go.AL
def stpW (pts : List Pnt) (a : Nat) (cs : List Int) : Nat × List Int :=
  if pts[a]!.next.length = 2 then
    match cs with
    | [] => ((pts[a]!.next[1]!).toNat, [])
    | c :: cs => ((pts[a]!.next[(c % 2).toNat]!).toNat, cs)
  else ((pts[a]!.next[0]!).toNat, cs)
def wayF (pts : List Pnt) : Nat → Nat → List Int → List Nat × Bool
  | 0, a, _ => if pts[a]!.op = 11 then ([a], true) else ([], false)
  | n + 1, a, cs => if pts[a]!.op = 11 then ([a], true) else (a :: (wayF pts n (stpW pts a cs).1 (stpW pts a cs).2).1, (wayF pts n (stpW pts a cs).1 (stpW pts a cs).2).2)
structure Mc where
  slots : List Sl
  cells : List Cl
  read : List Int
  deriving Inhabited
def sl0 : Sl := ⟨false, 0, ⟨0, 0⟩⟩
def endK (k : Int) : Int := if k = 1 then 3 else 4
def goK (k : Int) : Int := if k = 0 then -1 else endK k
def putF (ts : List Int) (s : Mc) (v : Nat) (x : Sl) : Mc × Int :=
  if ts[v]! = 2 ∧ s.slots[v]!.set = true then (⟨s.slots.set v x, frM s.cells s.slots[v]!.ptr, s.read⟩, goK (tchK s.cells s.slots[v]!.ptr true))
  else (⟨s.slots.set v x, s.cells, s.read⟩, -1)
def unsF (ts : List Int) (s : Mc) (x : Pnt) : Bool := (List.range ts.length).any fun v => decide (useAt ts x v ≠ 0) && !s.slots[v]!.set
def finF (ts : List Int) : Nat → Nat → Mc → Mc × Int
  | 0, _, s => (s, 0)
  | n + 1, v, s => if ts[v]! = 2 ∧ s.slots[v]!.set = true then
      (if tchK s.cells s.slots[v]!.ptr true = 0 then finF ts n (v + 1) ⟨s.slots.set v sl0, frM s.cells s.slots[v]!.ptr, s.read⟩ else (⟨s.slots, frM s.cells s.slots[v]!.ptr, s.read⟩, endK (tchK s.cells s.slots[v]!.ptr true)))
    else finF ts n (v + 1) s
def doF (ts : List Int) (s : Mc) (x : Pnt) : Mc × Int :=
  if x.op = 1 then putF ts s x.x.toNat ⟨true, x.n, ⟨0, 0⟩⟩
  else if x.op = 2 then (if s.cells.length = 200 then (s, 1) else putF ts ⟨s.slots, s.cells ++ [nwC x.n], s.read⟩ x.x.toNat ⟨true, 0, ⟨s.cells.length, 0⟩⟩)
  else if x.op = 3 then putF ts (if tkT ts[x.y.toNat]! = true then ⟨s.slots.set x.y.toNat sl0, s.cells, s.read⟩ else s) x.x.toNat s.slots[x.y.toNat]!
  else if x.op = 4 ∨ x.op = 5 then
    (if lnK s.cells s.slots[x.y.toNat]!.ptr (decide (x.op = 5)) = 0 then putF ts ⟨s.slots, lnM s.cells s.slots[x.y.toNat]!.ptr (decide (x.op = 5)), s.read⟩ x.x.toNat ⟨true, 0, lnP s.cells s.slots[x.y.toNat]!.ptr (decide (x.op = 5))⟩
     else (s, endK (lnK s.cells s.slots[x.y.toNat]!.ptr (decide (x.op = 5)))))
  else if x.op = 6 then
    (if tchK s.cells s.slots[x.y.toNat]!.ptr false = 0 then putF ts ⟨s.slots, tchM s.cells s.slots[x.y.toNat]!.ptr false, s.read ++ [rdN s.cells s.slots[x.y.toNat]!.ptr]⟩ x.x.toNat ⟨true, rdN s.cells s.slots[x.y.toNat]!.ptr, ⟨0, 0⟩⟩
     else (s, endK (tchK s.cells s.slots[x.y.toNat]!.ptr false)))
  else if x.op = 7 then (⟨s.slots, wrM s.cells s.slots[x.x.toNat]!.ptr s.slots[x.y.toNat]!.num, s.read⟩, goK (wrK s.cells s.slots[x.x.toNat]!.ptr s.slots[x.y.toNat]!.num))
  else if x.op = 8 then (⟨s.slots.set x.x.toNat sl0, frM s.cells s.slots[x.x.toNat]!.ptr, s.read⟩, goK (tchK s.cells s.slots[x.x.toNat]!.ptr true))
  else if x.op = 11 then finF ts ts.length 0 s
  else (s, -1)
def runF (ts : List Int) (pts : List Pnt) : List Nat → Mc → Nat → Mc × Int × Nat
  | [], s, last => (s, 1, last)
  | a :: l, s, _ => if unsF ts s pts[a]! = true then (s, 2, a)
    else if (doF ts s pts[a]!).2 = -1 then runF ts pts l (doF ts s pts[a]!).1 a
    else ((doF ts s pts[a]!).1, (doF ts s pts[a]!).2, a)
def mc0 (nt : Nat) : Mc := ⟨List.replicate nt sl0, [], []⟩
def runP (ts : List Int) (pts : List Pnt) (cs : List Int) (most : Nat) : Mc × Int × Nat := runF ts pts (wayF pts most 0 cs).1 (mc0 ts.length) 0
structure OkS (nt : Nat) (s : Mc) : Prop where
  m : OkM s.cells
  l : s.slots.length = nt
theorem OkS.put {ts : List Int} {nt : Nat} {s : Mc} (h : OkS nt s) (v : Nat) (x : Sl) : OkS nt (putF ts s v x).1 := by
  unfold putF; split
  · exact ⟨h.m.fr _, by show (s.slots.set v x).length = nt; rw [List.length_set]; exact h.l⟩
  · exact ⟨h.m, by show (s.slots.set v x).length = nt; rw [List.length_set]; exact h.l⟩
theorem OkS.fin {ts : List Int} {nt : Nat} : ∀ n v (s : Mc), OkS nt s → OkS nt (finF ts n v s).1
  | 0, _, _, h => h
  | n + 1, v, s, h => by
    unfold finF; split
    · split
      · exact OkS.fin n _ _ ⟨h.m.fr _, by show (s.slots.set v sl0).length = nt; rw [List.length_set]; exact h.l⟩
      · exact ⟨h.m.fr _, h.l⟩
    · exact OkS.fin n _ _ h
structure PtN (x : Pnt) : Prop where
  n : x.op = 2 → 0 ≤ x.n ∧ x.n ≤ 9
theorem OkS.do {ts : List Int} {nt : Nat} {s : Mc} (h : OkS nt s) {x : Pnt} (hx : PtN x) : OkS nt (doF ts s x).1 := by
  have hl : ∀ (v : Nat) (y : Sl), (s.slots.set v y).length = nt := fun v y => by rw [List.length_set]; exact h.l
  unfold doF
  split
  · exact h.put _ _
  split
  · rename_i h2
    split
    · exact h
    · rename_i h3
      refine OkS.put ?_ _ _
      exact ⟨h.m.nw (hx.n h2) (by have := h.m.l; omega), h.l⟩
  split
  · split
    · refine OkS.put ?_ _ _
      exact ⟨h.m, hl _ _⟩
    · exact h.put _ _
  split
  · split
    · refine OkS.put ?_ _ _
      exact ⟨h.m.ln _ _, h.l⟩
    · exact h
  split
  · split
    · refine OkS.put ?_ _ _
      exact ⟨h.m.tch _ _, h.l⟩
    · exact h
  split
  · exact ⟨h.m.wr _ _, h.l⟩
  split
  · exact ⟨h.m.fr _, hl _ _⟩
  split
  · exact OkS.fin _ _ _ h
  · exact h
theorem OkS.mc0 (nt : Nat) : OkS nt (mc0 nt) := ⟨⟨by simp [Go.AL.mc0], by simp [Go.AL.mc0]⟩, by simp [Go.AL.mc0]⟩
theorem OkS.run {ts : List Int} {pts : List Pnt} {nt : Nat} (hp : ∀ a : Nat, PtN pts[a]!) : ∀ (l : List Nat) (s : Mc) (last : Nat), OkS nt s → OkS nt (runF ts pts l s last).1
  | [], _, _, h => h
  | a :: l, s, _, h => by
    unfold runF; split
    · exact h
    · split
      · exact OkS.run hp l _ _ (h.do (hp a))
      · exact h.do (hp a)
end Go.AL

namespace Go.AL
theorem endK_ne (k : Int) : endK k = 3 ∨ endK k = 4 := by unfold endK; split; exact .inl rfl; exact .inr rfl
theorem fin_end (ts : List Int) : ∀ n v (s : Mc), (finF ts n v s).2 = 0 ∨ (finF ts n v s).2 = 3 ∨ (finF ts n v s).2 = 4
  | 0, _, _ => .inl rfl
  | n + 1, v, s => by
    unfold finF; split
    · split
      · exact fin_end ts n _ _
      · exact .inr (endK_ne _)
    · exact fin_end ts n _ _
theorem do_11 {ts : List Int} {s : Mc} {x : Pnt} (h : x.op = 11) : doF ts s x = finF ts ts.length 0 s := by
  unfold doF; simp [h]
theorem frM_len (m : List Cl) (x : Pt) : (frM m x).length = m.length := by unfold frM; split <;> simp
theorem tchM_len (m : List Cl) (x : Pt) (b : Bool) : (tchM m x b).length = m.length := by unfold tchM; split <;> simp
theorem lnM_len (m : List Cl) (x : Pt) (b : Bool) : (lnM m x b).length = m.length := by unfold lnM; split <;> simp
theorem wrM_len (m : List Cl) (x : Pt) (v : Int) : (wrM m x v).length = m.length := by unfold wrM; split <;> simp
end Go.AL

namespace Go.AL
structure PtA (ts : List Int) (x : Pnt) : Prop where
  n : x.op = 1 ∨ x.op = 2 → 0 ≤ x.n ∧ x.n ≤ 9
  t1 : x.op = 1 → ts[x.x.toNat]! = 1
  t2 : x.op = 2 ∨ x.op = 8 → ts[x.x.toNat]! = 2
  t3 : x.op = 3 → ts[x.x.toNat]! = ts[x.y.toNat]! ∧ x.x ≠ x.y
  t4 : x.op = 4 → ts[x.x.toNat]! = 3 ∧ x.x ≠ x.y ∧ 2 ≤ ts[x.y.toNat]!
  t5 : x.op = 5 → ts[x.x.toNat]! = 4 ∧ x.x ≠ x.y ∧ (ts[x.y.toNat]! = 2 ∨ ts[x.y.toNat]! = 4)
  t6 : x.op = 6 → ts[x.x.toNat]! = 1 ∧ 2 ≤ ts[x.y.toNat]!
  t7 : x.op = 7 → (ts[x.x.toNat]! = 2 ∨ ts[x.x.toNat]! = 4) ∧ ts[x.y.toNat]! = 1
theorem PtA.no {ts : List Int} {x : Pnt} (h : 9 ≤ x.op) : PtA ts x := ⟨fun e => by omega, fun e => by omega, fun e => by omega, fun e => by omega, fun e => by omega, fun e => by omega, fun e => by omega, fun e => by omega⟩
theorem simpleF_op {ts : List Int} {s : Stmt} (h : simpleF ts s = true) : s.op ≤ 8 := by
  unfold simpleF at h
  dsimp only at h
  apply Classical.byContradiction
  intro e
  rw [if_neg (by omega), if_neg (by omega)] at h
  split at h
  · cases h
  · rw [if_neg (by omega), if_neg (by omega), if_neg (by omega), if_neg (by omega), if_neg (by omega), if_neg (by omega)] at h; cases h
theorem simple_A {ts : List Int} (s : Stmt) (h : simpleF ts s = true) : PtA ts ⟨s.op, s.x, s.y, s.n, []⟩ := by
  have g : ∀ v, 0 < typeAt ts v → typeAt ts v = ts[v.toNat]! := fun v => typeAt_get
  have gx := g s.x
  have gy := g s.y
  unfold simpleF at h
  dsimp only at h
  constructor <;> dsimp only <;> intro e
  case n => rcases e with e | e <;> simp [e] at h <;> omega
  case t1 => simp [e] at h; rw [← gx (by omega)]; omega
  case t2 => rcases e with e | e <;> simp [e] at h <;> (rw [← gx (by omega)]; omega)
  case t3 => simp [e] at h; rw [← gx (by omega), ← gy (by omega)]; exact ⟨h.2.1, h.2.2.2⟩
  case t4 => simp [e] at h; rw [← gx (by omega), ← gy (by omega)]; exact ⟨h.2.1, h.2.2.2, h.2.2.1⟩
  case t5 => simp [e] at h; rw [← gx (by omega), ← gy (by omega)]; exact ⟨h.2.1, h.2.2.2, h.2.2.1⟩
  case t6 => simp [e] at h; rw [← gx (by omega), ← gy (by omega)]; exact ⟨h.2.1, h.2.2⟩
  case t7 => simp [e] at h; rw [← gx (by omega), ← gy (by omega)]; exact ⟨h.2.1, h.2.2⟩
mutual
theorem ptS_A {ts : List Int} : ∀ (s : Stmt) (d b : Nat), okS ts d s = true → ∀ x ∈ ptS b s, PtA ts x ∧ x.op ≠ 11 ∧ 0 < x.next.length
  | .mk op x y n th el, d, b, h => by
    simp only [okS] at h
    split at h
    · rename_i hop
      simp only [Bool.and_eq_true] at h
      have hs := simple_A _ h.2
      have ho := simpleF_op h.2
      simp only [Stmt.op, Stmt.x, Stmt.y, Stmt.n] at hs ho
      simp only [ptS, hop.1, hop.2, if_false, List.mem_singleton]
      rintro z rfl
      exact ⟨⟨hs.n, hs.t1, hs.t2, hs.t3, hs.t4, hs.t5, hs.t6, hs.t7⟩, by dsimp only; omega, by simp⟩
    · rename_i hop
      cases d with
      | zero => cases h
      | succ d =>
        simp only [Bool.and_eq_true, decide_eq_true_eq] at h
        obtain ⟨⟨⟨_, _⟩, h1⟩, h2⟩ := h
        by_cases h9 : op = 9
        · subst h9
          simp only [ptS, if_true, List.mem_append, List.mem_singleton]
          rintro z (((rfl | hz) | rfl) | hz)
          · exact ⟨PtA.no (by simp), by simp, by simp⟩
          · exact ptL_A th d (b + 1) h1 z hz
          · exact ⟨PtA.no (by simp), by simp, by simp⟩
          · exact ptL_A el d (b + 2 + npL th) h2 z hz
        · have h10 : op = 10 := by omega
          subst h10
          simp only [ptS, if_true, show ((10 : Int) = 9) = False by simp, if_false, List.mem_append, List.mem_singleton]
          rintro z ((rfl | hz) | rfl)
          · exact ⟨PtA.no (by simp), by simp, by simp⟩
          · exact ptL_A th d (b + 1) h1 z hz
          · exact ⟨PtA.no (by simp), by simp, by simp⟩
theorem ptL_A {ts : List Int} : ∀ (l : List Stmt) (d b : Nat), okL ts d l = true → ∀ x ∈ ptL b l, PtA ts x ∧ x.op ≠ 11 ∧ 0 < x.next.length
  | [], d, b, h => by simp [ptL]
  | s :: l, d, b, h => by
    simp only [okL, Bool.and_eq_true] at h
    simp only [ptL, List.mem_append]
    rintro x (hx | hx)
    · exact ptS_A s d b h.1 x hx
    · exact ptL_A l d (b + npS s) h.2 x hx
end
structure WA (ts : List Int) (pts : List Pnt) : Prop where
  a : ∀ i, i < pts.length → PtA ts pts[i]!
  e : ∀ i, i < pts.length → (pts[i]!.op = 11 ↔ i + 1 = pts.length)
  n : ∀ i, i < pts.length → pts[i]!.op ≠ 11 → 0 < pts[i]!.next.length
theorem WA.of_valid {p : Prg} (h : validF p = true) : WA p.types (ptsF p) := by
  unfold validF at h
  simp only [Bool.and_eq_true, decide_eq_true_eq] at h
  obtain ⟨⟨_, hl⟩, _⟩ := h
  have hlen := ptsF_len p
  have hpl := ptL_len p.body 0
  have lo : ∀ i, i + 1 < (ptsF p).length → (ptsF p)[i]! ∈ ptL 0 p.body := fun i hi => by
    have h1 : i < (ptL 0 p.body).length := by omega
    unfold ptsF
    rw [getB _ _ (by rw [List.length_append]; omega), List.getElem_append_left h1]
    exact List.getElem_mem h1
  have hi : ∀ i, i + 1 = (ptsF p).length → (ptsF p)[i]! = ⟨11, 0, 0, 0, []⟩ := fun i hi => by
    have h1 : i = (ptL 0 p.body).length := by omega
    unfold ptsF
    rw [getB _ _ (by rw [List.length_append, List.length_singleton]; omega)]
    simp [h1]
  refine ⟨fun i h => ?_, fun i h => ⟨fun e => ?_, fun e => by rw [hi i e]⟩, fun i h ne => ?_⟩
  · by_cases q : i + 1 < (ptsF p).length
    · exact (ptL_A p.body 4 0 hl _ (lo i q)).1
    · rw [hi i (by omega)]; exact PtA.no (by simp)
  · by_cases q : i + 1 < (ptsF p).length
    · exact absurd e (ptL_A p.body 4 0 hl _ (lo i q)).2.1
    · omega
  · by_cases q : i + 1 < (ptsF p).length
    · exact (ptL_A p.body 4 0 hl _ (lo i q)).2.2
    · exact absurd (by rw [hi i (by omega)]) ne
end Go.AL

namespace Go.AL
theorem slot_at {xs : List Sl} {X : Int} (y : Sl) {v : Nat} (hX : 0 ≤ X ∧ X < xs.length) (hv : v < xs.length) : (xs.set X.toNat y)[v]! = if X = (v : Int) then y else xs[v]! := by
  rw [set_get]
  by_cases h : X = (v : Int)
  · rw [if_pos h, if_pos ⟨by omega, hv⟩]
  · rw [if_neg h, if_neg (by omega)]
theorem put_slots (ts : List Int) (s : Mc) (v : Nat) (x : Sl) : (putF ts s v x).1.slots = s.slots.set v x := by
  unfold putF; split <;> rfl
theorem uns_set {ts : List Int} {s : Mc} {x : Pnt} (h : unsF ts s x = false) {v : Nat} (hv : v < ts.length) (hu : useAt ts x v ≠ 0) : s.slots[v]!.set = true := by
  unfold unsF at h
  rw [List.any_eq_false] at h
  have h1 := h v (List.mem_range.2 hv)
  rw [decide_eq_true hu, Bool.true_and] at h1
  simpa using h1
theorem tk_iff {t : Int} : tkT t = true ↔ t = 2 ∨ t = 4 := by unfold tkT; simp
theorem do_slots {ts : List Int} {s : Mc} {x : Pnt} (hl : s.slots.length = ts.length) (hu : unsF ts s x = false) (A : PtA ts x) (hop : 1 ≤ x.op ∧ x.op ≠ 11) (hx : x.op ≤ 8 → 0 ≤ x.x ∧ x.x < ts.length) (hy : 3 ≤ x.op → x.op ≤ 7 → 0 ≤ x.y ∧ x.y < ts.length) (hgo : (doF ts s x).2 = -1) :
    ∃ y : Sl, y.set = true ∧ ∀ v, v < ts.length → (doF ts s x).1.slots[v]! = if setAt x = (v : Int) then y else if useAt ts x v = 2 then sl0 else s.slots[v]! := by
  have hk : ∀ k, endK k ≠ -1 := fun k => by rcases endK_ne k with h | h <;> rw [h] <;> decide
  unfold doF at hgo ⊢
  by_cases h1 : x.op = 1
  · rw [if_pos h1]
    have hxb := hx (by omega)
    refine ⟨⟨true, x.n, ⟨0, 0⟩⟩, rfl, fun v hv => ?_⟩
    rw [put_slots, slot_at _ (by omega) (by omega)]
    have e1 : setAt x = x.x := by unfold setAt; rw [if_pos (by omega)]
    have e2 : useAt ts x v = 0 := by unfold useAt; rw [if_neg (by omega), if_neg (by omega), if_neg (by omega), if_neg (by omega)]
    rw [e1, e2]; simp
  rw [if_neg h1] at hgo ⊢
  by_cases h2 : x.op = 2
  · rw [if_pos h2] at hgo ⊢
    have hxb := hx (by omega)
    by_cases h200 : s.cells.length = 200
    · rw [if_pos h200] at hgo; cases hgo
    · rw [if_neg h200]
      refine ⟨⟨true, 0, ⟨s.cells.length, 0⟩⟩, rfl, fun v hv => ?_⟩
      rw [put_slots]
      dsimp only
      rw [slot_at _ (by omega) (by omega)]
      have e1 : setAt x = x.x := by unfold setAt; rw [if_pos (by omega)]
      have e2 : useAt ts x v = 0 := by unfold useAt; rw [if_neg (by omega), if_neg (by omega), if_neg (by omega), if_neg (by omega)]
      rw [e1, e2]; simp
  rw [if_neg h2] at hgo ⊢
  by_cases h3 : x.op = 3
  · rw [if_pos h3]
    have hxb := hx (by omega)
    have hyb := hy (by omega) (by omega)
    have hne := (A.t3 h3).2
    have e1 : setAt x = x.x := by unfold setAt; rw [if_pos (by omega)]
    have hyn : ((x.y.toNat : Nat) : Int) = x.y := by omega
    have hys : s.slots[x.y.toNat]!.set = true := uns_set hu (v := x.y.toNat) (by omega) (by
      unfold useAt; rw [if_pos h3, if_pos hyn]; split <;> decide)
    refine ⟨s.slots[x.y.toNat]!, hys, fun v hv => ?_⟩
    rw [put_slots]
    have e2 : useAt ts x v = if (v : Int) = x.y then (if ts[x.y.toNat]! = 2 ∨ ts[x.y.toNat]! = 4 then 2 else 1) else 0 := by
      unfold useAt; rw [if_pos h3]
      by_cases q : (v : Int) = x.y
      · rw [if_pos q, if_pos q, q]
      · rw [if_neg q, if_neg q]
    rw [e1, e2]
    by_cases ht : tkT ts[x.y.toNat]! = true
    · rw [if_pos ht]
      dsimp only
      rw [slot_at _ (by rw [List.length_set]; omega) (by rw [List.length_set]; omega), slot_at _ (by omega) (by omega), if_pos (tk_iff.1 ht)]
      by_cases q : x.x = (v : Int)
      · rw [if_pos q, if_pos q]
      · rw [if_neg q, if_neg q]
        by_cases q2 : x.y = (v : Int)
        · rw [if_pos q2, if_pos q2.symm, if_pos rfl]
        · have q3 : ¬ ((v : Int) = x.y) := fun h => q2 h.symm
          rw [if_neg q2, if_neg q3, if_neg (by decide : ¬ (0 : Int) = 2)]
    · rw [if_neg ht, slot_at _ (by omega) (by omega), if_neg (fun h => ht (tk_iff.2 h))]
      by_cases q : x.x = (v : Int)
      · rw [if_pos q, if_pos q]
      · rw [if_neg q, if_neg q]
        by_cases q2 : (v : Int) = x.y
        · rw [if_pos q2, if_neg (by decide)]
        · rw [if_neg q2, if_neg (by decide)]
  rw [if_neg h3] at hgo ⊢
  by_cases h4 : x.op = 4 ∨ x.op = 5
  · rw [if_pos h4] at hgo ⊢
    have hxb := hx (by omega)
    split at hgo
    · rename_i hz
      rw [if_pos hz]
      refine ⟨⟨true, 0, lnP s.cells s.slots[x.y.toNat]!.ptr (decide (x.op = 5))⟩, rfl, fun v hv => ?_⟩
      rw [put_slots]
      dsimp only
      rw [slot_at _ (by omega) (by omega)]
      have e1 : setAt x = x.x := by unfold setAt; rw [if_pos (by omega)]
      have e2 : useAt ts x v ≠ 2 := by unfold useAt; rw [if_neg (by omega), if_pos (by omega)]; split <;> decide
      rw [e1, if_neg e2]
    · exact absurd hgo (hk _)
  rw [if_neg h4] at hgo ⊢
  by_cases h6 : x.op = 6
  · rw [if_pos h6] at hgo ⊢
    have hxb := hx (by omega)
    split at hgo
    · rename_i hz
      rw [if_pos hz]
      refine ⟨⟨true, rdN s.cells s.slots[x.y.toNat]!.ptr, ⟨0, 0⟩⟩, rfl, fun v hv => ?_⟩
      rw [put_slots]
      dsimp only
      rw [slot_at _ (by omega) (by omega)]
      have e1 : setAt x = x.x := by unfold setAt; rw [if_pos (by omega)]
      have e2 : useAt ts x v ≠ 2 := by unfold useAt; rw [if_neg (by omega), if_pos (by omega)]; split <;> decide
      rw [e1, if_neg e2]
    · exact absurd hgo (hk _)
  rw [if_neg h6] at hgo ⊢
  have e1 : setAt x = -1 := by unfold setAt; rw [if_neg (by omega)]
  have e3 : ∀ v : Nat, setAt x ≠ (v : Int) := fun v => by rw [e1]; omega
  by_cases h7 : x.op = 7
  · rw [if_pos h7]
    refine ⟨⟨true, 0, ⟨0, 0⟩⟩, rfl, fun v hv => ?_⟩
    have e2 : useAt ts x v ≠ 2 := by unfold useAt; rw [if_neg (by omega), if_neg (by omega), if_pos h7]; split; decide; split <;> decide
    rw [if_neg (e3 v), if_neg e2]
  rw [if_neg h7]
  by_cases h8 : x.op = 8
  · rw [if_pos h8]
    have hxb := hx (by omega)
    refine ⟨⟨true, 0, ⟨0, 0⟩⟩, rfl, fun v hv => ?_⟩
    dsimp only
    rw [if_neg (e3 v), slot_at _ (by omega) (by omega)]
    have e2 : useAt ts x v = if (v : Int) = x.x then 2 else 0 := by unfold useAt; rw [if_neg (by omega), if_neg (by omega), if_neg (by omega), if_pos h8]
    rw [e2]
    by_cases q : x.x = (v : Int)
    · rw [if_pos q, if_pos q.symm, if_pos rfl]
    · have q3 : ¬ ((v : Int) = x.x) := fun h => q h.symm
      rw [if_neg q, if_neg q3, if_neg (by decide : ¬ (0 : Int) = 2)]
  · rw [if_neg h8, if_neg hop.2]
    refine ⟨⟨true, 0, ⟨0, 0⟩⟩, rfl, fun v hv => ?_⟩
    have e2 : useAt ts x v ≠ 2 := by unfold useAt; rw [if_neg (by omega), if_neg (by omega), if_neg (by omega), if_neg (by omega)]; decide
    rw [if_neg (e3 v), if_neg e2]
section
variable {ts : List Int} {pts : List Pnt}
theorem WG.doS (w : WG ts pts) (A : WA ts pts) {a : Nat} (ha : a < pts.length) {s : Mc} (hl : s.slots.length = ts.length) (hu : unsF ts s pts[a]! = false) (h11 : pts[a]!.op ≠ 11) (hgo : (doF ts s pts[a]!).2 = -1) :
    ∃ y : Sl, y.set = true ∧ ∀ v, v < ts.length → (doF ts s pts[a]!).1.slots[v]! = if setAt pts[a]! = (v : Int) then y else if useAt ts pts[a]! v = 2 then sl0 else s.slots[v]! :=
  do_slots hl hu (A.a a ha) ⟨(w.op a ha).1, h11⟩ (fun h => ⟨(w.x a ha).1, (w.x a ha).2 h⟩) (fun h1 h2 => ⟨(w.y a ha).1, (w.y a ha).2 h1 h2⟩) hgo
theorem stp_edge (w : WG ts pts) (A : WA ts pts) {a : Nat} (ha : a < pts.length) (h11 : pts[a]!.op ≠ 11) (cs : List Int) : edge pts a (stpW pts a cs).1 := by
  have key : ∀ j : Nat, j < pts[a]!.next.length → edge pts a (pts[a]!.next[j]!).toNat := fun j hj => by
    have hm := getB_mem pts[a]!.next j hj
    refine ⟨ha, ?_⟩
    rw [show (((pts[a]!.next[j]!).toNat : Nat) : Int) = pts[a]!.next[j]! by have := (w.nx a ha _ hm).1; omega]
    exact hm
  have h0 := A.n a ha h11
  unfold stpW
  split
  · rename_i h2
    split
    · exact key 1 (by omega)
    · rename_i c cs
      exact key _ (by omega)
  · exact key 0 h0
end
end Go.AL

namespace Go.AL
section
variable {ts : List Int} {pts : List Pnt}
structure Vs (ts : List Int) (pts : List Pnt) (a : Nat) (s : Mc) : Prop where
  l : s.slots.length = ts.length
  u : ∀ v, v < ts.length → s.slots[v]!.set = false → Na ts pts (a, v)
  m : ∀ v, v < ts.length → s.slots[v]!.set = true → Mb ts pts (a, v)
theorem put_len (ts : List Int) (s : Mc) (v : Nat) (x : Sl) : (putF ts s v x).1.slots.length = s.slots.length := by rw [put_slots, List.length_set]
theorem fin_len (ts : List Int) : ∀ n v (s : Mc), (finF ts n v s).1.slots.length = s.slots.length
  | 0, _, _ => rfl
  | n + 1, v, s => by
    unfold finF; split
    · split
      · rw [fin_len ts n]; exact List.length_set
      · rfl
    · exact fin_len ts n _ _
theorem do_len (ts : List Int) (s : Mc) (x : Pnt) : (doF ts s x).1.slots.length = s.slots.length := by
  unfold doF
  split
  · exact put_len _ _ _ _
  split
  · split
    · rfl
    · exact put_len _ _ _ _
  split
  · rw [put_len]; split
    · exact List.length_set
    · rfl
  split
  · split
    · exact put_len _ _ _ _
    · rfl
  split
  · split
    · exact put_len _ _ _ _
    · rfl
  split
  · rfl
  split
  · exact List.length_set
  split
  · exact fin_len _ _ _ _
  · rfl
theorem Vs.step (w : WG ts pts) (A : WA ts pts) (a : Nat) (s : Mc) (k : Nat) (ha : a < pts.length) (h11 : pts[a]!.op ≠ 11) (he : edge pts a k) (h : Vs ts pts a s) (hu : unsF ts s pts[a]! = false) (hgo : (doF ts s pts[a]!).2 = -1) : Vs ts pts k (doF ts s pts[a]!).1 := by
  obtain ⟨y, hy, hs⟩ := w.doS A ha h.l hu h11 hgo
  refine ⟨by rw [do_len]; exact h.l, fun v hv hf => ?_, fun v hv ht => ?_⟩
  · rw [hs v hv] at hf
    by_cases h1 : setAt pts[a]! = (v : Int)
    · rw [if_pos h1, hy] at hf; cases hf
    · rw [if_neg h1] at hf
      by_cases h2 : useAt ts pts[a]! v = 2
      · exact .base ⟨hv, .inr ⟨a, he, h2, h1⟩⟩
      · rw [if_neg h2] at hf
        exact .step (a := (a, v)) (h.u v hv hf) ⟨rfl, he, h1⟩
  · rw [hs v hv] at ht
    by_cases h1 : setAt pts[a]! = (v : Int)
    · exact .base ⟨a, he, h1⟩
    · rw [if_neg h1] at ht
      by_cases h2 : useAt ts pts[a]! v = 2
      · rw [if_pos h2] at ht; cases ht
      · rw [if_neg h2] at ht
        exact .step (a := (a, v)) (h.m v hv ht) ⟨rfl, he, h2⟩
theorem uns_true {s : Mc} {x : Pnt} (h : unsF ts s x = true) : ∃ v, v < ts.length ∧ useAt ts x v ≠ 0 ∧ s.slots[v]!.set = false := by
  unfold unsF at h
  obtain ⟨v, hv, h2⟩ := List.any_eq_true.1 h
  rw [Bool.and_eq_true, decide_eq_true_eq] at h2
  exact ⟨v, List.mem_range.1 hv, h2.1, by simpa using h2.2⟩
end
end Go.AL

namespace Go.AL
theorem app_lo {α : Type} [Inhabited α] {l r : List α} {c : Nat} (h : c < l.length) : (l ++ r)[c]! = l[c]! := by
  rw [getB _ _ (by rw [List.length_append]; omega), getB _ _ h, List.getElem_append_left h]
theorem app_hi {α : Type} [Inhabited α] {l : List α} {x : α} : (l ++ [x])[l.length]! = x := by
  rw [getB _ _ (by rw [List.length_append, List.length_singleton]; omega)]; simp
theorem tgIx_0 {stk : List Tg} (hl : 0 < stk.length) (h : stk[0]! = ⟨0, true⟩) : tgIx stk 0 = 0 := by
  cases stk with
  | nil => simp at hl
  | cons t l =>
    have ht : t = ⟨0, true⟩ := h
    subst ht
    unfold tgIx
    rw [List.findIdx?_cons]
    simp
def Hd (m : List Cl) : Prop := ∀ c, c < m.length → m[c]!.stk[0]! = ⟨0, true⟩
theorem own_ok {m : List Cl} (h : OkM m) (hh : Hd m) {x : Pt} (hx : 0 ≤ x.cell ∧ x.cell < m.length) (ht : x.tag = 0) (ha : m[x.cell.toNat]!.alive = true) (wr : Bool) : tchK m x wr = 0 := by
  have hc := h.at (k := x.cell.toNat) (by omega)
  have hs := hh x.cell.toNat (by omega)
  have h0 := tgIx_0 (by have := hc.l; omega) hs
  unfold tchK
  rw [if_neg (fun q => q hx), if_neg (by rw [ha]; decide), ht, h0, if_neg (by decide), if_neg]
  rintro ⟨_, h2⟩
  have e : m[x.cell.toNat]!.stk[(0 : Int).toNat]! = m[x.cell.toNat]!.stk[0]! := rfl
  rw [e, hs] at h2; cases h2
theorem set_hd {m : List Cl} (hh : Hd m) {k : Nat} {c : Cl} (hc : c.stk[0]! = ⟨0, true⟩) : Hd (m.set k c) := fun j hj => by
  rw [List.length_set] at hj
  rw [set_get]
  split
  · exact hc
  · exact hh j hj
theorem tchC_hd {m : List Cl} (h : OkM m) (hh : Hd m) {k : Nat} (hk : k < m.length) (x : Pt) (wr : Bool) : (tchC m[k]! x wr).stk[0]! = ⟨0, true⟩ := by
  have hl := (h.at hk).l
  show (tchS m[k]!.stk _ wr)[0]! = _
  rw [(tchS_head (by omega)).1]; exact hh k hk
theorem Hd.tch {m : List Cl} (h : OkM m) (hh : Hd m) (x : Pt) (wr : Bool) : Hd (tchM m x wr) := by
  unfold tchM; split
  · rename_i hk; exact set_hd hh (tchC_hd h hh (tchK_0 hk).2.2 x wr)
  · exact hh
theorem Hd.fr {m : List Cl} (h : OkM m) (hh : Hd m) (x : Pt) : Hd (frM m x) := by
  unfold frM; split
  · rename_i hk; exact set_hd hh (tchC_hd h hh (tchK_0 hk).2.2 x true)
  · exact hh
theorem Hd.wr {m : List Cl} (h : OkM m) (hh : Hd m) (x : Pt) (v : Int) : Hd (wrM m x v) := by
  unfold wrM
  by_cases hk : wrK m x v = 0
  · rw [if_pos hk]
    unfold wrK at hk
    by_cases hv : 0 ≤ v ∧ v ≤ 9
    · rw [if_pos hv] at hk; exact set_hd hh (tchC_hd h hh (tchK_0 hk).2.2 x true)
    · rw [if_neg hv] at hk; cases hk
  · rw [if_neg hk]; exact hh
theorem lnK_0 {m : List Cl} {x : Pt} {u : Bool} (h : lnK m x u = 0) : tchK m x u = 0 := by
  unfold lnK at h
  by_cases h0 : tchK m x u = 0
  · exact h0
  · rw [if_neg h0] at h; exact h
theorem Hd.ln {m : List Cl} (h : OkM m) (hh : Hd m) (x : Pt) (u : Bool) : Hd (lnM m x u) := by
  unfold lnM; split
  · rename_i hk
    have h0 := tchK_0 (lnK_0 hk)
    have h1 := tchC_hd h hh h0.2.2 x u
    have h2 := ((h.at h0.2.2).tch x u).l
    refine set_hd hh ?_
    show ((tchC m[x.cell.toNat]! x u).stk ++ [_])[0]! = _
    rw [app_lo (by omega)]; exact h1
  · exact hh
theorem Hd.nw {m : List Cl} (hh : Hd m) (v : Int) : Hd (m ++ [nwC v]) := fun c hc => by
  rw [List.length_append, List.length_singleton] at hc
  by_cases q : c < m.length
  · rw [app_lo q]; exact hh c q
  · have e : c = m.length := by omega
    subst e
    rw [app_hi]; rfl
def alv (m : List Cl) (c : Nat) : Bool := m[c]!.alive
theorem alv_set {m : List Cl} {k c : Nat} {x : Cl} (hc : c < m.length) : alv (m.set k x) c = if k = c then x.alive else alv m c := by
  unfold alv
  rw [set_get]
  by_cases h : k = c
  · rw [if_pos ⟨h, hc⟩, if_pos h]
  · rw [if_neg (fun q => h q.1), if_neg h]
theorem alv_tch (m : List Cl) (x : Pt) (wr : Bool) (c : Nat) (hc : c < m.length) : alv (tchM m x wr) c = alv m c := by
  unfold tchM; split
  · rw [alv_set hc]; split
    · rename_i e; subst e; rfl
    · rfl
  · rfl
theorem alv_ln (m : List Cl) (x : Pt) (u : Bool) (c : Nat) (hc : c < m.length) : alv (lnM m x u) c = alv m c := by
  unfold lnM; split
  · rw [alv_set hc]; split
    · rename_i e; subst e; rfl
    · rfl
  · rfl
theorem alv_wr (m : List Cl) (x : Pt) (v : Int) (c : Nat) (hc : c < m.length) : alv (wrM m x v) c = alv m c := by
  unfold wrM; split
  · rw [alv_set hc]; split
    · rename_i e; subst e; rfl
    · rfl
  · rfl
theorem alv_fr {m : List Cl} {x : Pt} (hk : tchK m x true = 0) (c : Nat) (hc : c < m.length) : alv (frM m x) c = if x.cell = (c : Int) then false else alv m c := by
  have h0 := tchK_0 hk
  unfold frM
  rw [if_pos hk, alv_set hc]
  by_cases q : x.cell = (c : Int)
  · rw [if_pos q, if_pos (by omega)]
  · rw [if_neg q, if_neg (by omega)]
structure Own (ts : List Int) (s : Mc) (X : Option Nat) : Prop where
  k : OkS ts.length s
  h : Hd s.cells
  o : ∀ v, v < ts.length → ts[v]! = 2 → s.slots[v]!.set = true → 0 ≤ s.slots[v]!.ptr.cell ∧ s.slots[v]!.ptr.cell < s.cells.length ∧ s.slots[v]!.ptr.tag = 0 ∧ alv s.cells s.slots[v]!.ptr.cell.toNat = true
  d : ∀ v u, v < ts.length → u < ts.length → ts[v]! = 2 → ts[u]! = 2 → s.slots[v]!.set = true → s.slots[u]!.set = true → s.slots[v]!.ptr.cell = s.slots[u]!.ptr.cell → v = u
  a : ∀ c, c < s.cells.length → alv s.cells c = true → X = some c ∨ ∃ v, v < ts.length ∧ ts[v]! = 2 ∧ s.slots[v]!.set = true ∧ s.slots[v]!.ptr.cell = (c : Int)
  x : ∀ c, X = some c → c < s.cells.length ∧ alv s.cells c = true ∧ ∀ v, v < ts.length → ts[v]! = 2 → s.slots[v]!.set = true → s.slots[v]!.ptr.cell ≠ (c : Int)
theorem Own.k0 {ts : List Int} {s : Mc} {X : Option Nat} (w : Own ts s X) {v : Nat} (hv : v < ts.length) (h2 : ts[v]! = 2) (hs : s.slots[v]!.set = true) (wr : Bool) : tchK s.cells s.slots[v]!.ptr wr = 0 := by
  obtain ⟨h1, h3, h4, h5⟩ := w.o v hv h2 hs
  exact own_ok w.k.m w.h ⟨h1, h3⟩ h4 h5 wr
theorem Own.cells {ts : List Int} {s : Mc} {X : Option Nat} (w : Own ts s X) {m : List Cl} (hm : OkM m) (hh : Hd m) (hl : m.length = s.cells.length) (ha : ∀ c, c < s.cells.length → alv m c = alv s.cells c) (r : List Int) : Own ts ⟨s.slots, m, r⟩ X := by
  refine ⟨⟨hm, w.k.l⟩, hh, fun v hv h2 hs => ?_, w.d, fun c hc h => ?_, fun c hc => ?_⟩
  · obtain ⟨h1, h3, h4, h5⟩ := w.o v hv h2 hs
    exact ⟨h1, by show _ < (m.length : Int); rw [hl]; exact h3, h4, by show alv m _ = true; rw [ha _ (show s.slots[v]!.ptr.cell.toNat < s.cells.length by omega)]; exact h5⟩
  · have hc' : c < m.length := hc
    exact w.a c (by omega) (by rw [← ha c (by omega)]; exact h)
  · obtain ⟨h1, h3, h4⟩ := w.x c hc
    exact ⟨by show c < m.length; omega, by show alv m c = true; rw [ha c h1]; exact h3, h4⟩
theorem Own.put0 {ts : List Int} {s : Mc} {X : Option Nat} (w : Own ts s X) {v : Nat} (h2 : ts[v]! ≠ 2) (y : Sl) : Own ts (putF ts s v y).1 X ∧ (putF ts s v y).2 = -1 := by
  have hl : (s.slots.set v y).length = ts.length := by rw [List.length_set]; exact w.k.l
  have e : ∀ u : Nat, ts[u]! = 2 → (s.slots.set v y)[u]! = s.slots[u]! := fun u hu => by
    rw [set_get, if_neg]; rintro ⟨q, _⟩; rw [q] at h2; exact h2 hu
  unfold putF
  rw [if_neg (fun h => h2 h.1)]
  refine ⟨⟨⟨w.k.m, hl⟩, w.h, fun u hu h hs => ?_, fun u u' hu hu' h h' hs hs' hc => ?_, fun c hc h => ?_, fun c hc => ?_⟩, rfl⟩
  · dsimp only at hs ⊢; rw [e u h] at hs ⊢; exact w.o u hu h hs
  · dsimp only at hs hs' hc; rw [e u h] at hs hc; rw [e u' h'] at hs' hc; exact w.d u u' hu hu' h h' hs hs' hc
  · rcases w.a c hc h with q | ⟨u, q1, q2, q3, q4⟩
    · exact .inl q
    · exact .inr ⟨u, q1, q2, by dsimp only; rw [e u q2]; exact q3, by dsimp only; rw [e u q2]; exact q4⟩
  · obtain ⟨h1, h3, h4⟩ := w.x c hc
    exact ⟨h1, h3, fun u q1 q2 q3 => by dsimp only at q3 ⊢; rw [e u q2] at q3 ⊢; exact h4 u q1 q2 q3⟩
theorem Own.free {ts : List Int} {s : Mc} {X : Option Nat} (w : Own ts s X) {v : Nat} (hv : v < ts.length) (h2 : ts[v]! = 2) (hs : s.slots[v]!.set = true) (y : Sl) (hy : y.set = false) (r : List Int) :
    Own ts ⟨s.slots.set v y, frM s.cells s.slots[v]!.ptr, r⟩ X := by
  have hk := w.k0 hv h2 hs true
  have hlen := frM_len s.cells s.slots[v]!.ptr
  have hl : (s.slots.set v y).length = ts.length := by rw [List.length_set]; exact w.k.l
  have e : ∀ u : Nat, u ≠ v → (s.slots.set v y)[u]! = s.slots[u]! := fun u hu => by
    rw [set_get, if_neg]; rintro ⟨q, _⟩; exact hu q.symm
  have ev : (s.slots.set v y)[v]! = y := by rw [set_get, if_pos ⟨rfl, by rw [w.k.l]; exact hv⟩]
  have nev : ∀ u : Nat, (s.slots.set v y)[u]!.set = true → u ≠ v := fun u h q => by rw [q, ev, hy] at h; cases h
  obtain ⟨b1, b2, b3, b4⟩ := w.o v hv h2 hs
  refine ⟨⟨w.k.m.fr _, hl⟩, w.h.fr w.k.m _, fun u hu h hs' => ?_, fun u u' hu hu' h h' q q' hc => ?_, fun c hc h => ?_, fun c hc => ?_⟩
  · have hne := nev u hs'
    dsimp only at hs' ⊢
    rw [e u hne] at hs' ⊢
    obtain ⟨c1, c2, c3, c4⟩ := w.o u hu h hs'
    refine ⟨c1, by rw [hlen]; exact c2, c3, ?_⟩
    rw [alv_fr hk _ (by omega), if_neg]
    · exact c4
    · intro q; exact hne (w.d u v hu hv h h2 hs' hs (by omega))
  · have n1 := nev u q
    have n2 := nev u' q'
    dsimp only at q q' hc
    rw [e u n1] at q hc; rw [e u' n2] at q' hc
    exact w.d u u' hu hu' h h' q q' hc
  · dsimp only at hc h
    rw [hlen] at hc
    rw [alv_fr hk c hc] at h
    by_cases q : s.slots[v]!.ptr.cell = (c : Int)
    · rw [if_pos q] at h; cases h
    · rw [if_neg q] at h
      rcases w.a c hc h with q2 | ⟨u, q1, q2, q3, q4⟩
      · exact .inl q2
      · have hne : u ≠ v := fun e' => q (by rw [← e']; exact q4)
        exact .inr ⟨u, q1, q2, by dsimp only; rw [e u hne]; exact q3, by dsimp only; rw [e u hne]; exact q4⟩
  · obtain ⟨h1, h3, h4⟩ := w.x c hc
    refine ⟨by dsimp only; rw [hlen]; exact h1, ?_, fun u q1 q2 q3 => ?_⟩
    · dsimp only; rw [alv_fr hk c h1, if_neg (h4 v hv h2 hs)]; exact h3
    · have hne := nev u q3
      dsimp only at q3 ⊢
      rw [e u hne] at q3 ⊢
      exact h4 u q1 q2 q3
theorem Own.take {ts : List Int} {s : Mc} {c : Nat} (w : Own ts s (some c)) {v : Nat} (hv : v < ts.length) (h2 : ts[v]! = 2) (hs : s.slots[v]!.set = false) (y : Sl) (hy : y.set = true) (hp : y.ptr = ⟨c, 0⟩) : Own ts ⟨s.slots.set v y, s.cells, s.read⟩ none := by
  have hl : (s.slots.set v y).length = ts.length := by rw [List.length_set]; exact w.k.l
  have e : ∀ u : Nat, u ≠ v → (s.slots.set v y)[u]! = s.slots[u]! := fun u hu => by
    rw [set_get, if_neg]; rintro ⟨q, _⟩; exact hu q.symm
  have ev : (s.slots.set v y)[v]! = y := by rw [set_get, if_pos ⟨rfl, by rw [w.k.l]; exact hv⟩]
  obtain ⟨x1, x2, x3⟩ := w.x c rfl
  refine ⟨⟨w.k.m, hl⟩, w.h, fun u hu h hs' => ?_, fun u u' hu hu' h h' q q' hc => ?_, fun c' hc h => ?_, fun c' hc => by cases hc⟩
  · by_cases q : u = v
    · subst q; dsimp only; rw [ev, hp]
      exact ⟨by dsimp only; omega, by dsimp only; omega, rfl, by simpa using x2⟩
    · dsimp only at hs' ⊢; rw [e u q] at hs' ⊢; exact w.o u hu h hs'
  · dsimp only at q q' hc
    by_cases n1 : u = v
    · by_cases n2 : u' = v
      · rw [n1, n2]
      · exfalso; rw [n1, ev, hp, e u' n2] at hc; rw [e u' n2] at q'; exact x3 u' hu' h' q' hc.symm
    · by_cases n2 : u' = v
      · exfalso; rw [n2, ev, hp, e u n1] at hc; rw [e u n1] at q; exact x3 u hu h q hc
      · rw [e u n1] at q hc; rw [e u' n2] at q' hc; exact w.d u u' hu hu' h h' q q' hc
  · dsimp only at hc h
    rcases w.a c' hc h with q2 | ⟨u, q1, q2, q3, q4⟩
    · cases q2
      exact .inr ⟨v, hv, h2, by dsimp only; rw [ev]; exact hy, by dsimp only; rw [ev, hp]⟩
    · have hne : u ≠ v := fun e' => by rw [e', hs] at q3; cases q3
      exact .inr ⟨u, q1, q2, by dsimp only; rw [e u hne]; exact q3, by dsimp only; rw [e u hne]; exact q4⟩
theorem set_set' {xs : List Sl} (v : Nat) (y z : Sl) : (xs.set v y).set v z = xs.set v z := by simp
theorem Own.putB {ts : List Int} {s : Mc} {c : Nat} (w : Own ts s (some c)) {v : Nat} (hv : v < ts.length) (h2 : ts[v]! = 2) (y : Sl) (hy : y.set = true) (hp : y.ptr = ⟨c, 0⟩) : Own ts (putF ts s v y).1 none ∧ (putF ts s v y).2 = -1 := by
  unfold putF
  by_cases hs : s.slots[v]!.set = true
  · rw [if_pos ⟨h2, hs⟩]
    have hk := w.k0 hv h2 hs true
    have w1 := w.free hv h2 hs sl0 rfl s.read
    have w2 := w1.take hv h2 (by dsimp only; rw [set_get, if_pos ⟨rfl, by rw [w.k.l]; exact hv⟩]; rfl) y hy hp
    dsimp only at w2 ⊢
    rw [set_set'] at w2
    refine ⟨w2, ?_⟩
    unfold goK; rw [if_pos hk]
  · rw [if_neg (fun h => hs h.2)]
    exact ⟨w.take hv h2 (by simpa using hs) y hy hp, rfl⟩
end Go.AL

namespace Go.AL
section
variable {ts : List Int} {s : Mc}
theorem Own.new (w : Own ts s none) {n : Int} (hn : 0 ≤ n ∧ n ≤ 9) (hl : s.cells.length ≠ 200) (r : List Int) : Own ts ⟨s.slots, s.cells ++ [nwC n], r⟩ (some s.cells.length) := by
  have hlen : (s.cells ++ [nwC n]).length = s.cells.length + 1 := by rw [List.length_append, List.length_singleton]
  have lo : ∀ c, c < s.cells.length → alv (s.cells ++ [nwC n]) c = alv s.cells c := fun c hc => by
    unfold alv
    rw [app_lo hc]
  have hi : alv (s.cells ++ [nwC n]) s.cells.length = true := by
    unfold alv; rw [app_hi]; rfl
  refine ⟨⟨w.k.m.nw hn (by have := w.k.m.l; omega), w.k.l⟩, w.h.nw n, fun v hv h2 hs => ?_, w.d, fun c hc h => ?_, fun c hc => ?_⟩
  · obtain ⟨h1, h3, h4, h5⟩ := w.o v hv h2 hs
    exact ⟨h1, by dsimp only; omega, h4, by dsimp only; rw [lo _ (by omega)]; exact h5⟩
  · dsimp only at hc h
    by_cases q : c < s.cells.length
    · rw [lo c q] at h
      rcases w.a c q h with q2 | q2
      · cases q2
      · exact .inr q2
    · exact .inl (by congr 1; omega)
  · cases hc
    refine ⟨by dsimp only; omega, hi, fun v hv h2 hs => ?_⟩
    obtain ⟨h1, h3, h4, h5⟩ := w.o v hv h2 hs
    dsimp only; omega
theorem Own.give (w : Own ts s none) {v : Nat} (hv : v < ts.length) (h2 : ts[v]! = 2) (hs : s.slots[v]!.set = true) : Own ts ⟨s.slots.set v sl0, s.cells, s.read⟩ (some s.slots[v]!.ptr.cell.toNat) := by
  have hl : (s.slots.set v sl0).length = ts.length := by rw [List.length_set]; exact w.k.l
  have e : ∀ u : Nat, u ≠ v → (s.slots.set v sl0)[u]! = s.slots[u]! := fun u hu => by
    rw [set_get, if_neg]; rintro ⟨q, _⟩; exact hu q.symm
  have ev : (s.slots.set v sl0)[v]! = sl0 := by rw [set_get, if_pos ⟨rfl, by rw [w.k.l]; exact hv⟩]
  have nev : ∀ u : Nat, (s.slots.set v sl0)[u]!.set = true → u ≠ v := fun u h q => by rw [q, ev] at h; cases h
  obtain ⟨b1, b2, b3, b4⟩ := w.o v hv h2 hs
  refine ⟨⟨w.k.m, hl⟩, w.h, fun u hu h hs' => ?_, fun u u' hu hu' h h' q q' hc => ?_, fun c hc h => ?_, fun c hc => ?_⟩
  · have hne := nev u hs'
    dsimp only at hs' ⊢; rw [e u hne] at hs' ⊢; exact w.o u hu h hs'
  · have n1 := nev u q
    have n2 := nev u' q'
    dsimp only at q q' hc
    rw [e u n1] at q hc; rw [e u' n2] at q' hc
    exact w.d u u' hu hu' h h' q q' hc
  · rcases w.a c hc h with q2 | ⟨u, q1, q2, q3, q4⟩
    · cases q2
    · by_cases q : u = v
      · subst q; exact .inl (by congr 1; omega)
      · exact .inr ⟨u, q1, q2, by dsimp only; rw [e u q]; exact q3, by dsimp only; rw [e u q]; exact q4⟩
  · cases hc
    refine ⟨by dsimp only; omega, b4, fun u q1 q2 q3 => ?_⟩
    have hne := nev u q3
    dsimp only at q3 ⊢
    rw [e u hne] at q3 ⊢
    intro q; exact hne (w.d u v q1 hv q2 h2 q3 hs (by omega))
theorem Own.clr (w : Own ts s none) {v : Nat} (h2 : ts[v]! ≠ 2) : Own ts ⟨s.slots.set v sl0, s.cells, s.read⟩ none := by
  have h := (w.put0 h2 sl0).1
  unfold putF at h
  rwa [if_neg (fun h => h2 h.1)] at h
theorem Own.do (w : Own ts s none) {x : Pnt} (A : PtA ts x) (h11 : x.op ≠ 11) (hx : x.op ≤ 8 → 0 ≤ x.x ∧ x.x < ts.length) (hop : 1 ≤ x.op) (hy : 3 ≤ x.op → x.op ≤ 7 → 0 ≤ x.y ∧ x.y < ts.length) (hu : unsF ts s x = false) : Own ts (doF ts s x).1 none := by
  unfold doF
  by_cases h1 : x.op = 1
  · rw [if_pos h1]; exact (w.put0 (by rw [A.t1 h1]; decide) _).1
  rw [if_neg h1]
  by_cases h2 : x.op = 2
  · rw [if_pos h2]
    split
    · exact w
    · rename_i h200
      have hxb := hx (by omega)
      exact ((w.new (A.n (.inr h2)) h200 s.read).putB (v := x.x.toNat) (by omega) (A.t2 (.inl h2)) _ rfl rfl).1
  rw [if_neg h2]
  by_cases h3 : x.op = 3
  · rw [if_pos h3]
    have hxb := hx (by omega)
    have hyb := hy (by omega) (by omega)
    obtain ⟨ht, hne⟩ := A.t3 h3
    have hyn : ((x.y.toNat : Nat) : Int) = x.y := by omega
    have hys : s.slots[x.y.toNat]!.set = true := uns_set hu (v := x.y.toNat) (by omega) (by
      unfold useAt; rw [if_pos h3, if_pos hyn]; split <;> decide)
    by_cases q2 : ts[x.y.toNat]! = 2
    · rw [if_pos (tk_iff.2 (.inl q2))]
      have g := w.give (v := x.y.toNat) (by omega) q2 hys
      obtain ⟨b1, b2, b3, b4⟩ := w.o x.y.toNat (by omega) q2 hys
      refine (g.putB (v := x.x.toNat) (by omega) (by rw [ht]; exact q2) _ hys ?_).1
      generalize s.slots[x.y.toNat]! = z at b1 b3
      obtain ⟨zs, zn, zc, zt⟩ := z
      dsimp only at b1 b3 ⊢
      rw [b3, Int.toNat_of_nonneg b1]
    · split
      · exact ((w.clr (v := x.y.toNat) q2).put0 (by rw [ht]; exact q2) _).1
      · exact (w.put0 (by rw [ht]; exact q2) _).1
  rw [if_neg h3]
  by_cases h4 : x.op = 4 ∨ x.op = 5
  · rw [if_pos h4]
    have hxt : ts[x.x.toNat]! ≠ 2 := by
      rcases h4 with h4 | h4
      · rw [(A.t4 h4).1]; decide
      · rw [(A.t5 h4).1]; decide
    split
    · exact ((w.cells (w.k.m.ln _ _) (w.h.ln w.k.m _ _) (lnM_len _ _ _) (fun c hc => alv_ln _ _ _ c hc) _).put0 hxt _).1
    · exact w
  rw [if_neg h4]
  by_cases h6 : x.op = 6
  · rw [if_pos h6]
    have hxt : ts[x.x.toNat]! ≠ 2 := by rw [(A.t6 h6).1]; decide
    split
    · exact ((w.cells (w.k.m.tch _ _) (w.h.tch w.k.m _ _) (tchM_len _ _ _) (fun c hc => alv_tch _ _ _ c hc) _).put0 hxt _).1
    · exact w
  rw [if_neg h6]
  by_cases h7 : x.op = 7
  · rw [if_pos h7]; exact w.cells (w.k.m.wr _ _) (w.h.wr w.k.m _ _) (wrM_len _ _ _) (fun c hc => alv_wr _ _ _ c hc) _
  rw [if_neg h7]
  by_cases h8 : x.op = 8
  · rw [if_pos h8]
    have hxb := hx (by omega)
    have hxn : ((x.x.toNat : Nat) : Int) = x.x := by omega
    have hxs : s.slots[x.x.toNat]!.set = true := uns_set hu (v := x.x.toNat) (by omega) (by
      unfold useAt; rw [if_neg (by omega), if_neg (by omega), if_neg (by omega), if_pos h8, if_pos hxn]; decide)
    exact w.free (v := x.x.toNat) (by omega) (A.t2 (.inr h8)) hxs sl0 rfl _
  rw [if_neg h8, if_neg h11]
  exact w
end
theorem Own.fin {ts : List Int} : ∀ n v (s : Mc), Own ts s none → v + n = ts.length → (∀ u, u < v → ts[u]! = 2 → s.slots[u]!.set = false) →
    (finF ts n v s).2 = 0 ∧ Own ts (finF ts n v s).1 none ∧ ∀ u, u < ts.length → ts[u]! = 2 → (finF ts n v s).1.slots[u]!.set = false
  | 0, v, s, w, hv, h => ⟨rfl, w, fun u hu h2 => h u (by omega) h2⟩
  | n + 1, v, s, w, hv, h => by
    unfold finF
    by_cases q : ts[v]! = 2 ∧ s.slots[v]!.set = true
    · rw [if_pos q, if_pos (w.k0 (by omega) q.1 q.2 true)]
      refine Own.fin n (v + 1) _ (w.free (by omega) q.1 q.2 sl0 rfl _) (by omega) fun u hu h2 => ?_
      dsimp only
      rw [set_get]
      by_cases e : v = u
      · rw [if_pos ⟨e, by rw [w.k.l]; omega⟩]; rfl
      · rw [if_neg (fun h => e h.1)]; exact h u (by omega) h2
    · rw [if_neg q]
      refine Own.fin n (v + 1) s w (by omega) fun u hu h2 => ?_
      by_cases e : u = v
      · subst e
        cases hs : s.slots[u]!.set with
        | false => rfl
        | true => exact absurd ⟨h2, hs⟩ q
      · exact h u (by omega) h2
structure Str (ts : List Int) (s : Mc) : Prop where
  w : Own ts s none
  r : ∀ v, v < ts.length → ts[v]! = 3 ∨ ts[v]! = 4 → s.slots[v]!.set = false
  i : ∀ v, v < ts.length → ts[v]! = 1 → 0 ≤ s.slots[v]!.num ∧ s.slots[v]!.num ≤ 9
theorem Str.put {ts : List Int} {s1 : Mc} (hl : s1.slots.length = ts.length) (hr : ∀ v, v < ts.length → ts[v]! = 3 ∨ ts[v]! = 4 → s1.slots[v]!.set = false) (hi : ∀ v, v < ts.length → ts[v]! = 1 → 0 ≤ s1.slots[v]!.num ∧ s1.slots[v]!.num ≤ 9) {v : Nat} {y : Sl}
    (w : Own ts (putF ts s1 v y).1 none) (h3 : ts[v]! ≠ 3 ∧ ts[v]! ≠ 4) (h1 : ts[v]! = 1 → 0 ≤ y.num ∧ y.num ≤ 9) : Str ts (putF ts s1 v y).1 := by
  refine ⟨w, fun u hu h => ?_, fun u hu h => ?_⟩
  · rw [put_slots, set_get]
    by_cases e : v = u
    · exfalso; rw [← e] at h; omega
    · rw [if_neg (fun q => e q.1)]; exact hr u hu h
  · rw [put_slots, set_get]
    by_cases e : v = u
    · rw [if_pos ⟨e, by omega⟩]; exact h1 (by rw [e]; exact h)
    · rw [if_neg (fun q => e q.1)]; exact hi u hu h
theorem Str.do {ts : List Int} {s : Mc} (S : Str ts s) (hT : ∀ v, v < ts.length → ts[v]! ≤ 4) {x : Pnt} (A : PtA ts x) (h11 : x.op ≠ 11) (hln : x.op ≠ 4 ∧ x.op ≠ 5) (hx : x.op ≤ 8 → 0 ≤ x.x ∧ x.x < ts.length) (hop : 1 ≤ x.op) (hy : 3 ≤ x.op → x.op ≤ 7 → 0 ≤ x.y ∧ x.y < ts.length) (hu : unsF ts s x = false) :
    ((doF ts s x).2 = -1 ∨ (doF ts s x).2 = 1) ∧ ((doF ts s x).2 = -1 → Str ts (doF ts s x).1) := by
  have w' := S.w.do A h11 hx hop hy hu
  have hl := S.w.k.l
  unfold doF at w' ⊢
  by_cases h1 : x.op = 1
  · rw [if_pos h1] at w' ⊢
    have ht := A.t1 h1
    refine ⟨.inl (S.w.put0 (by rw [ht]; decide) _).2, fun _ => ?_⟩
    exact Str.put hl S.r S.i w' ⟨by rw [ht]; decide, by rw [ht]; decide⟩ (fun _ => A.n (.inl h1))
  rw [if_neg h1] at w' ⊢
  by_cases h2 : x.op = 2
  · rw [if_pos h2] at w' ⊢
    have ht := A.t2 (.inl h2)
    have hxb := hx (by omega)
    by_cases h200 : s.cells.length = 200
    · rw [if_pos h200]; exact ⟨.inr rfl, fun h => by cases h⟩
    · rw [if_neg h200] at w' ⊢
      refine ⟨.inl ((S.w.new (A.n (.inr h2)) h200 s.read).putB (v := x.x.toNat) (by omega) ht _ rfl rfl).2, fun _ => ?_⟩
      exact Str.put (s1 := ⟨s.slots, s.cells ++ [nwC x.n], s.read⟩) hl S.r S.i w' ⟨by rw [ht]; decide, by rw [ht]; decide⟩ (fun h => by rw [ht] at h; cases h)
  rw [if_neg h2] at w' ⊢
  by_cases h3 : x.op = 3
  · rw [if_pos h3] at w' ⊢
    have hxb := hx (by omega)
    have hyb := hy (by omega) (by omega)
    obtain ⟨ht, hne⟩ := A.t3 h3
    have hyn : ((x.y.toNat : Nat) : Int) = x.y := by omega
    have hys : s.slots[x.y.toNat]!.set = true := uns_set hu (v := x.y.toNat) (by omega) (by
      unfold useAt; rw [if_pos h3, if_pos hyn]; split <;> decide)
    have hyt : ts[x.y.toNat]! ≠ 3 ∧ ts[x.y.toNat]! ≠ 4 := by
      refine ⟨fun h => ?_, fun h => ?_⟩
      · rw [S.r _ (by omega) (.inl h)] at hys; cases hys
      · rw [S.r _ (by omega) (.inr h)] at hys; cases hys
    by_cases q2 : ts[x.y.toNat]! = 2
    · rw [if_pos (tk_iff.2 (.inl q2))] at w' ⊢
      have g := S.w.give (v := x.y.toNat) (by omega) q2 hys
      obtain ⟨b1, b2, b3, b4⟩ := S.w.o x.y.toNat (by omega) q2 hys
      refine ⟨.inl (g.putB (v := x.x.toNat) (by omega) (by rw [ht]; exact q2) _ hys ?_).2, fun _ => ?_⟩
      · generalize s.slots[x.y.toNat]! = z at b1 b3
        obtain ⟨zs, zn, zc, zt⟩ := z
        dsimp only at b1 b3 ⊢
        rw [b3, Int.toNat_of_nonneg b1]
      · refine Str.put (by dsimp only; rw [List.length_set]; exact hl) (fun u hu' h => ?_) (fun u hu' h => ?_) w' (by rw [ht]; exact hyt) (fun h => by rw [ht, q2] at h; cases h)
        · dsimp only; rw [set_get]; split
          · rfl
          · exact S.r u hu' h
        · dsimp only; rw [set_get]; split
          · exact ⟨by decide, by decide⟩
          · exact S.i u hu' h
    · have hnt : ¬ tkT ts[x.y.toNat]! = true := fun h => (tk_iff.1 h).elim q2 hyt.2
      rw [if_neg hnt] at w' ⊢
      refine ⟨.inl (S.w.put0 (by rw [ht]; exact q2) _).2, fun _ => ?_⟩
      exact Str.put hl S.r S.i w' (by rw [ht]; exact hyt) (fun h => S.i _ (by omega) (by rw [← ht]; exact h))
  rw [if_neg h3] at w' ⊢
  rw [if_neg (by omega : ¬ (x.op = 4 ∨ x.op = 5))] at w' ⊢
  by_cases h6 : x.op = 6
  · rw [if_pos h6] at w' ⊢
    obtain ⟨ht, hty⟩ := A.t6 h6
    have hxb := hx (by omega)
    have hyb := hy (by omega) (by omega)
    have hyn : ((x.y.toNat : Nat) : Int) = x.y := by omega
    have hys : s.slots[x.y.toNat]!.set = true := uns_set hu (v := x.y.toNat) (by omega) (by
      unfold useAt; rw [if_neg (by omega), if_pos (by omega), if_pos hyn]; decide)
    have q2 : ts[x.y.toNat]! = 2 := by
      apply Classical.byContradiction; intro q
      by_cases q3 : ts[x.y.toNat]! = 3 ∨ ts[x.y.toNat]! = 4
      · rw [S.r _ (by omega) q3] at hys; cases hys
      · have := hT x.y.toNat (by omega); omega
    have hk := S.w.k0 (v := x.y.toNat) (by omega) q2 hys false
    have hk0 := tchK_0 hk
    rw [if_pos hk] at w' ⊢
    refine ⟨.inl ((S.w.cells (S.w.k.m.tch _ _) (S.w.h.tch S.w.k.m _ _) (tchM_len _ _ _) (fun c hc => alv_tch _ _ _ c hc) _).put0 (by rw [ht]; decide) _).2, fun _ => ?_⟩
    refine Str.put (s1 := ⟨s.slots, tchM s.cells s.slots[x.y.toNat]!.ptr false, s.read ++ [rdN s.cells s.slots[x.y.toNat]!.ptr]⟩) hl S.r S.i w' ⟨by rw [ht]; decide, by rw [ht]; decide⟩ (fun _ => ?_)
    unfold rdN; rw [if_pos hk]
    exact (S.w.k.m.at hk0.2.2).v
  rw [if_neg h6] at w' ⊢
  by_cases h7 : x.op = 7
  · rw [if_pos h7] at w' ⊢
    obtain ⟨ht, hty⟩ := A.t7 h7
    have hxb := hx (by omega)
    have hyb := hy (by omega) (by omega)
    have hxn : ((x.x.toNat : Nat) : Int) = x.x := by omega
    have hxs : s.slots[x.x.toNat]!.set = true := uns_set hu (v := x.x.toNat) (by omega) (by
      unfold useAt; rw [if_neg (by omega), if_neg (by omega), if_pos h7, if_pos hxn]; decide)
    have q2 : ts[x.x.toNat]! = 2 := by
      rcases ht with h | h
      · exact h
      · rw [S.r _ (by omega) (.inr h)] at hxs; cases hxs
    have hk := S.w.k0 (v := x.x.toNat) (by omega) q2 hxs true
    have hn := S.i x.y.toNat (by omega) hty
    refine ⟨.inl ?_, fun _ => ⟨w', S.r, S.i⟩⟩
    show goK _ = -1
    unfold goK wrK; rw [if_pos hn, if_pos hk]
  rw [if_neg h7] at w' ⊢
  by_cases h8 : x.op = 8
  · rw [if_pos h8] at w' ⊢
    have hxb := hx (by omega)
    have hxn : ((x.x.toNat : Nat) : Int) = x.x := by omega
    have hxs : s.slots[x.x.toNat]!.set = true := uns_set hu (v := x.x.toNat) (by omega) (by
      unfold useAt; rw [if_neg (by omega), if_neg (by omega), if_neg (by omega), if_pos h8, if_pos hxn]; decide)
    have q2 := A.t2 (.inr h8)
    have hk := S.w.k0 (v := x.x.toNat) (by omega) q2 hxs true
    refine ⟨.inl ?_, fun _ => ⟨w', fun u hu' h => ?_, fun u hu' h => ?_⟩⟩
    · show goK _ = -1
      unfold goK; rw [if_pos hk]
    · dsimp only; rw [set_get]; split
      · rfl
      · exact S.r u hu' h
    · dsimp only; rw [set_get]; split
      · exact ⟨by decide, by decide⟩
      · exact S.i u hu' h
  rw [if_neg h8, if_neg h11] at w' ⊢
  exact ⟨.inl rfl, fun _ => S⟩
theorem fin_read (ts : List Int) : ∀ n v (s : Mc), (finF ts n v s).1.read = s.read
  | 0, _, _ => rfl
  | n + 1, v, s => by
    unfold finF; split
    · split
      · exact fin_read ts n _ _
      · rfl
    · exact fin_read ts n _ _
theorem put_read (ts : List Int) (s : Mc) (v : Nat) (x : Sl) : (putF ts s v x).1.read = s.read := by unfold putF; split <;> rfl
end Go.AL

namespace Go.AL
theorem wayF_nc {pts : List Pnt} (h : ∀ a : Nat, ¬ pts[a]!.next.length = 2) : ∀ n a cs cs', wayF pts n a cs = wayF pts n a cs'
  | 0, a, cs, cs' => by unfold wayF; rfl
  | n + 1, a, cs, cs' => by
    have e : ∀ c, stpW pts a c = ((pts[a]!.next[0]!).toNat, c) := fun c => by unfold stpW; rw [if_neg (h a)]
    rw [wayF, wayF, e, e]
    dsimp only
    rw [wayF_nc h n _ cs cs']
theorem run_nc {ts : List Int} {pts : List Pnt} (h : ∀ a : Nat, ¬ pts[a]!.next.length = 2) (cs cs' : List Int) (n : Nat) : runP ts pts cs n = runP ts pts cs' n := by
  unfold runP; rw [wayF_nc h n 0 cs cs']
theorem nc_of_count {pts : List Pnt} (h : (pts.countP fun x => decide (x.next.length = 2)) = 0) (a : Nat) : ¬ pts[a]!.next.length = 2 := by
  rw [List.countP_eq_zero] at h
  by_cases ha : a < pts.length
  · have := h pts[a]! (by rw [getElem!_pos pts a ha]; exact List.getElem_mem ha)
    simpa using this
  · rw [getElem!_neg pts a ha]; decide
end Go.AL

namespace Go.AL
structure Co where
  val : Int
  alive : Bool
  next : Int
  av : AV
instance : Inhabited Co := ⟨⟨0, false, 0, .imm 0 []⟩⟩
def cCo (c : Co) : List AV := [iv c.val, bv c.alive, iv c.next, c.av]
instance : FlT cCo 4 := ⟨fun _ => rfl⟩
instance : FE cCo (fun c => [iv c.val, bv c.alive, iv c.next, c.av]) := ⟨fun _ => rfl⟩
def toCo (c : Cl) : Co := ⟨c.val, c.alive, c.next, sl cTg c.stk⟩
def opn (m : List Cl) (j : Nat) (X : AV) : List Co := (m.map toCo).set j { toCo m[j]! with av := X }
theorem flat_toCo (m : List Cl) : flat cCo (m.map toCo) = flat cCl m := by
  unfold flat; rw [List.flatMap_map]; rfl
theorem opn_len {m : List Cl} {j : Nat} {X : AV} : (opn m j X).length = m.length := by unfold opn; rw [List.length_set, List.length_map]
theorem opn_get {m : List Cl} {j : Nat} {X : AV} (h : j < m.length) : (opn m j X)[j]! = ⟨m[j]!.val, m[j]!.alive, m[j]!.next, X⟩ := by
  unfold opn
  rw [getB _ _ (by rw [List.length_set, List.length_map]; exact h), List.getElem_set_self]; rfl
theorem opn_flat {m : List Cl} {j : Nat} {X : AV} (h : j < m.length) : flat cCo (opn m j X) = flat cCl (m.take j) ++ ([iv m[j]!.val, bv m[j]!.alive, iv m[j]!.next] ++ X :: flat cCl (m.drop (j + 1))) := by
  unfold opn
  rw [List.set_eq_take_append_cons_drop, if_pos (by rw [List.length_map]; exact h), ← flat_append, ← List.map_take, flat_toCo, ← List.map_drop]
  congr 1
  show cCo _ ++ flat cCo _ = _
  rw [flat_toCo]; rfl
theorem opn_flat2 {m : List Cl} {j : Nat} {X : AV} (h : j < m.length) : flat cCo (opn m j X) = (flat cCl (m.take j) ++ [iv m[j]!.val, bv m[j]!.alive, iv m[j]!.next]) ++ X :: flat cCl (m.drop (j + 1)) := by
  rw [opn_flat h, List.append_assoc]
theorem opn_self {m : List Cl} {j : Nat} {r : List Tg} : flat cCo (opn m j (sl cTg r)) = flat cCl (m.set j { m[j]! with stk := r }) := by
  rw [← flat_toCo, List.map_set]; rfl
theorem spl_opn {m : List Cl} {j : Nat} {X : AV} (h : j < m.length) : spl (flat cCl m) (0 + j * 4 + 3) [X] = flat cCo (opn m j X) := by
  rw [← flat_toCo]
  have := st_flat (f := cCo) (xs := m.map toCo) (k := j) (j := 3) (new := [X]) (y := { toCo m[j]! with av := X }) (by rw [List.length_map]; exact h) (by simp) (by
    have e : (m.map toCo)[j]! = toCo m[j]! := by rw [getB _ _ (by rw [List.length_map]; exact h), List.getElem_map, getB _ _ h]
    rw [e]; rfl)
  exact this
theorem st_opn {m : List Cl} {j : Nat} {X Y : AV} (h : j < m.length) : spl (flat cCo (opn m j X)) (0 + j * 4 + 3) [Y] = flat cCo (opn m j Y) := by
  have e : opn m j Y = (opn m j X).set j { toCo m[j]! with av := Y } := by unfold opn; rw [List.set_set]
  rw [e]
  exact st_flat (by rw [opn_len]; exact h) (by simp) (by rw [opn_get h]; rfl)
theorem st_opnN {m : List Cl} {j : Nat} {X : AV} {v : Int} (h : j < m.length) : spl (flat cCo (opn m j X)) (0 + j * 4 + 2) [iv v] = flat cCo (opn (m.set j { m[j]! with next := v }) j X) := by
  have e : opn (m.set j { m[j]! with next := v }) j X = (opn m j X).set j ⟨m[j]!.val, m[j]!.alive, v, X⟩ := by
    have e2 : (m.set j { m[j]! with next := v })[j]! = { m[j]! with next := v } := by rw [getB _ _ (by rw [List.length_set]; exact h), List.getElem_set_self]
    unfold opn
    rw [e2, List.map_set, List.set_set, List.set_set]; rfl
  rw [e]
  exact st_flat (by rw [opn_len]; exact h) (by simp) (by rw [opn_get h]; rfl)
theorem Le.cls {ts : List (Nat × AV)} {hs : List (Nat × Option (List AV))} {n : Nat} {z0 : Lo} {o q j k : Nat} {m : List Cl} {r : List Tg} (hj : lkH hs o = some (flat cCo (opn m j (.own q 0 k 2)))) (hq : lkH hs q = some (flat cTg r)) (hk : k = r.length) (hjm : j < m.length) (hoq : o ≠ q) :
    Le ⟨ts, hs, n, z0⟩ ⟨ts, (o, some (flat cCl (m.set j { m[j]! with stk := r }))) :: (q, none) :: hs, n, z0⟩ := by
  subst hk
  rw [opn_flat2 hjm] at hj
  have h := Le.frzC (ts := ts) (n := n) (z0 := z0) _ hj hq hoq
  rw [← opn_self, opn_flat2 hjm]; exact h
theorem rn_opn {ρ : Nat → Option Nat} {m : List Cl} {j k i i' : Nat} (hr : ρ i = some i') : RnL ρ (flat cCo (opn m j (.own i 0 k 2))) (flat cCo (opn m j (.own i' 0 k 2))) := by
  by_cases h : j < m.length
  · rw [opn_flat h, opn_flat h]
    exact RnL.app (RnL.purI inferInstance) (RnL.app (RnL.purI inferInstance) (RnL.cons (RnV.own hr) (RnL.purI inferInstance)))
  · have e : ∀ X, opn m j X = m.map toCo := fun X => List.set_eq_of_length_le (by rw [List.length_map]; omega)
    rw [e, e, flat_toCo]
    exact RnL.purI inferInstance
end Go.AL
