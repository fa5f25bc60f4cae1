/-
 A part of the proofs over this program: rules and contracts of its functions (the rules).
-/
import Derived.Test.YtjcpngimjdckmaaGreatQ4A06
import Derived.Laws.IdiomCopy
set_option linter.unusedVariables false
set_option linter.unusedSimpArgs false
namespace Go.AL
theorem jN {p : Prg} (h : cM p = true) : cP p.types = true ∧ okL p.types 4 p.body = true ∧ bJ p.body ≤ 30 := by
 unfold cM at h
 simp only [Bool.and_eq_true, decide_eq_true_eq] at h
 exact ⟨h.1.1, h.1.2, h.2⟩
end Go.AL
namespace Go.AL
set_option linter.unusedVariables false
section
variable {C : Ctx} {ι : Pl} {F : Nat → Prop} {H : Nat → Option (List AV)} {w : World}
theorem vS (P : Program) {w : World} {b o : Nat} {arr : Array Value} {e : TypeId} {vs : List Value} (hb : w.heap[b]? = some (.cells arr e (0, 0))) (hl : o + vs.length ≤ arr.size) (h1 : ∀ v ∈ vs, v.oneCell' = true) :
  w.setCells b o vs = w.setRow b (arr.toList.take o ++ vs ++ arr.toList.drop (o + vs.length)).toArray := by
 have a := run_storeCells_cells (P := P) b o vs 0 w (fun j hj => by
  unfold World.cell?; simp only [hb]; rw [Array.getElem?_eq_getElem (by omega)]; rfl) (fun j hj => by unfold World.frozen?; rw [hb]; simp) h1
 have c := run_storeCells_at P b o e vs 0 arr w hb (by omega) h1
 rw [a] at c
 simp only [Nat.add_zero] at c
 injection c
theorem HG.extS (P : Program) (gh : HG C ι F H w) {id off b β : Nat} {cs new : List AV} {l : List Value} {arr : Array Value} {e : TypeId} (hH : H id = some cs) (hi : ι id = some (some (b, β))) (hb : w.heap[b]? = some (.cells arr e (0, 0)))
  (hoff : off ≤ cs.length) (hl : β + off + l.length ≤ arr.size) (hn : RdL w (aY C.X ι H) ι new l) :
  HG C ι F (eO H id (some (cs.take off ++ new))) (w.setCells b (β + off) l) ∧ Carry w (aY C.X ι H) ι (w.setCells b (β + off) l) (aY C.X ι (eO H id (some (cs.take off ++ new)))) ι ∧ ∃ arr', (w.setCells b (β + off) l).heap[b]? = some (.cells arr' e (0, 0)) ∧ arr'.size = arr.size := by
 rcases gh.obj id cs hH with ⟨q1, _⟩ | ⟨b', β', arr', el', q1, q2, q3, q4, q5, q6⟩
 ·rw [q1] at hi; cases hi
 rw [q1] at hi
 cases hi
 rw [q2] at hb
 cases hb
 have hseg := RdC.seg q2 (RdC.take off q4)
 rw [List.length_take, show min off cs.length = off from by omega] at hseg
 have hall := RdL.append hseg hn
 rw [vS P q2 hl (kI hn)]
 have hh := setRow_heap w b arr (arr.toList.take (β + off) ++ l ++ arr.toList.drop (β + off + l.length)).toArray e _ q2
 have hsz : (arr.toList.take (β + off) ++ l ++ arr.toList.drop (β + off + l.length)).toArray.size = arr.size := by simp; omega
 obtain ⟨g1, c1⟩ := gh.mut (cs := cs.take off ++ new) hH q1 hh (by rw [hsz]; simp [pN, q2])
  (pre := arr.toList.take β) (l := (arr.toList.drop β).take off ++ l) (post := arr.toList.drop (β + off + l.length)) (by
   have e1 : arr.toList.take (β + off) = arr.toList.take β ++ (arr.toList.drop β).take off := by rw [List.take_add]
   simp only [e1, List.append_assoc]) (by simp; omega) hall (fun k hk => setRow_other w b k _ hk) rfl rfl rfl (by simp)
 exact ⟨g1, c1, _, hh, hsz⟩
theorem HG.mid (P : Program) (gh : HG C ι F H w) {id off b β : Nat} {cs new : List AV} {l : List Value} (hH : H id = some cs) (hi : ι id = some (some (b, β)))
  (hl : off + new.length ≤ cs.length) (hn : RdL w (aY C.X ι H) ι new l) :
  HG C ι F (eO H id (some (g8 cs off new))) (w.setCells b (β + off) l) ∧ Carry w (aY C.X ι H) ι (w.setCells b (β + off) l) (aY C.X ι (eO H id (some (g8 cs off new)))) ι := by
 obtain ⟨w', h1, h2, h3⟩ := nQ (P := P) gh hH hi hl hn
 rcases gh.obj id cs hH with ⟨q1, _⟩ | ⟨b', β', arr', el', q1, q2, q3, q4, q5, q6⟩
 ·rw [q1] at hi; cases hi
 rw [q1] at hi
 cases hi
 have hlen := RdL.length hn
 have a := run_storeCells_cells (P := P) b (β + off) l 0 w (fun j hj => by
  unfold World.cell?; simp only [q2]; rw [Array.getElem?_eq_getElem (by omega)]; rfl) (fun j hj => by unfold World.frozen?; rw [q2]; simp) (kI hn)
 rw [Nat.add_zero] at a
 rw [h1] at a
 injection a with _ e
 rw [← e]
 exact ⟨h2, h3⟩
end
end Go.AL
namespace Go.AL
theorem cD : (∀ a b : Bool, ((a && b) = true) = (a = true ∧ b = true)) ∧ (∀ a b : Bool, ((a && b) = false) ↔ (a = false ∨ b = false)) ∧ (∀ a b : Bool, ((a || b) = true) = (a = true ∨ b = true)) ∧ (∀ a b : Bool, ((a || b) = false) ↔ (a = false ∧ b = false)) ∧
  (∀ (p : Prop) [Decidable p], (decide p = true) = p) ∧ (∀ (p : Prop) [Decidable p], (decide p = false) ↔ ¬ p) ∧ (∀ a : Bool, ((!a) = true) ↔ a = false) ∧ (∀ a : Bool, ((!a) = false) ↔ a = true) ∧ ((!true) = false) ∧ ((!false) = true) ∧ (∀ a b : Int, ¬ a < b ↔ b ≤ a) ∧ (∀ a b : Int, ¬ a ≤ b ↔ b < a) :=
 ⟨fun a b => Bool.and_eq_true a b, fun a b => Bool.and_eq_false_iff, fun a b => Bool.or_eq_true a b, fun a b => Bool.or_eq_false_iff, fun p _ => by simp, fun p _ => decide_eq_false_iff_not, fun a => by simp, fun a => by simp, rfl, rfl, fun _ _ => Int.not_lt, fun _ _ => Int.not_le⟩
theorem fD : (∀ {α : Type} (a b : List α), (a ++ b).length = a.length + b.length) ∧ (∀ {α : Type} (a : α) (b : List α), (a :: b).length = b.length + 1) ∧ (∀ {α : Type}, ([] : List α).length = 0) ∧ (∀ {α : Type} (a : List α) (i : Nat) (x : α), (a.set i x).length = a.length) ∧ (∀ {α : Type} (i : Nat) (a : List α), (a.take i).length = min i a.length) ∧
  (∀ {α β : Type} (f : α → β) (a : List α), (a.map f).length = a.length) ∧ (∀ {α : Type} (n : Nat) (a : α), (List.replicate n a).length = n) ∧ (∀ (l : List Stmt) (b : Nat), (gF b l).length = dL l) ∧ (∀ n : Nat, n * 1 = n) ∧ (∀ n : Nat, 0 + n = n) ∧ (∀ n : Nat, n + 0 = n) :=
 ⟨fun _ _ => List.length_append, fun _ _ => rfl, rfl, fun _ _ _ => List.length_set, fun _ _ => List.length_take, fun _ _ => List.length_map _, fun _ _ => List.length_replicate, cS, Nat.mul_one, Nat.zero_add, Nat.add_zero⟩
theorem c6 {α : Type} {p q r : α → Prop} (x : α) (h3 : r x) (h1 : p x) (h2 : q x) : ∃ x, p x ∧ q x ∧ r x := ⟨x, h1, h2, h3⟩
end Go.AL
