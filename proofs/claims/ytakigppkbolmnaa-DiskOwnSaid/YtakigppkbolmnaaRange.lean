/- Ranges over maps: what is still to come. -/
import Derived.Test.YtakigppkbolmnaaLoop
import Derived.Maps.RangeWalk
namespace Go.Abs
open Go.RowKit Go.ChangeMaps Go.Maps Go.MapKept

/-- An iterator in block r over the map in block b; 'seen': the births of those that have come. -/
def IterAt (w : World) (b r : Nat) (ens : Array MapEntry) (clock : Nat) (seen : Array Nat) : Prop :=
  w.heap[b]? = some (.map ens clock) ∧ ∃ c0, w.heap[r]? = some (.mapIter (some b) clock seen c0) ∧ clock ≤ c0

theorem IterAt.kept {w w' : World} {b r : Nat} {ens : Array MapEntry} {clock : Nat} {seen : Array Nat} {row : Option Nat} (h : IterAt w b r ens clock seen) (hg : w.grownBy w' row) (hb : some b ≠ row) (hr : some r ≠ row) :
    IterAt w' b r ens clock seen := by
  obtain ⟨h1, c0, h2, h3⟩ := h
  have l1 : b < w.heap.size := (Array.getElem?_eq_some_iff.1 h1).1
  have l2 : r < w.heap.size := (Array.getElem?_eq_some_iff.1 h2).1
  exact ⟨(hg.block b l1 hb).trans h1, c0, (hg.block r l2 hr).trans h2, h3⟩

theorem IterAt.lt {w : World} {b r : Nat} {ens : Array MapEntry} {clock : Nat} {seen : Array Nat} (h : IterAt w b r ens clock seen) : r < w.heap.size := by
  obtain ⟨h1, c0, h2, h3⟩ := h
  exact (Array.getElem?_eq_some_iff.1 h2).1

theorem IterAt.ne {w : World} {b r : Nat} {ens : Array MapEntry} {clock : Nat} {seen : Array Nat} (h : IterAt w b r ens clock seen) : r ≠ b := by
  obtain ⟨h1, c0, h2, h3⟩ := h
  intro e
  rw [e, h1] at h2
  cases h2

/-- A number of those that are still to come, added up. -/
def leftSum (f : MapEntry → Int) (ens : Array MapEntry) (seen : Array Nat) : Int := ((leftOf ens seen).toList.map f).sum

theorem leftOf_list (ens : Array MapEntry) (seen : Array Nat) : (leftOf ens seen).toList = ens.toList.filter fun e => !seen.contains e.born := by
  unfold leftOf
  rw [Array.toList_filter]

theorem filter_less (f : MapEntry → Int) : ∀ (l : List MapEntry) (p : MapEntry → Bool) (e : MapEntry), (l.map (·.born)).Nodup → e ∈ l → p e = true →
    ((l.filter fun x => p x && !(x.born == e.born)).map f).sum = ((l.filter p).map f).sum - f e ∧ (l.filter fun x => p x && !(x.born == e.born)).length + 1 = (l.filter p).length
  | [], _, _, _, h, _ => by cases h
  | a :: l, p, e, hn, h, hp => by
    simp only [List.map_cons, List.nodup_cons] at hn
    rcases List.mem_cons.1 h with rfl | h
    · have hsame : l.filter (fun x => p x && !(x.born == e.born)) = l.filter p := by
        refine List.filter_congr fun x hx => ?_
        have : x.born ≠ e.born := fun he => hn.1 (List.mem_map.2 ⟨x, hx, he⟩)
        rw [beq_eq_false_iff_ne.2 this]
        simp
      have e1 : (p e && !(e.born == e.born)) = false := by simp
      rw [List.filter_cons_of_neg (by rw [e1]; decide), List.filter_cons_of_pos hp, hsame]
      simp only [List.map_cons, List.sum_cons, List.length_cons]
      exact ⟨by omega, trivial⟩
    · obtain ⟨h1, h2⟩ := filter_less f l p e hn.2 h hp
      have hne : a.born ≠ e.born := fun he => hn.1 (List.mem_map.2 ⟨e, h, he.symm⟩)
      have e1 : (p a && !(a.born == e.born)) = p a := by rw [beq_eq_false_iff_ne.2 hne]; simp
      cases hpa : p a
      · rw [List.filter_cons_of_neg (by rw [e1, hpa]; decide), List.filter_cons_of_neg (by rw [hpa]; decide)]
        exact ⟨h1, h2⟩
      · rw [List.filter_cons_of_pos (by rw [e1, hpa]), List.filter_cons_of_pos hpa]
        simp only [List.map_cons, List.sum_cons, List.length_cons]
        omega

theorem Born.nodup {ens : Array MapEntry} {clock : Nat} (h : Born ens clock) : (ens.toList.map (·.born)).Nodup := by
  refine List.Pairwise.imp ?_ h.1
  intro a b hab
  omega

theorem left_next (f : MapEntry → Int) {ens : Array MapEntry} {clock : Nat} {seen : Array Nat} (hB : Born ens clock) {e : MapEntry} (he : e ∈ (leftOf ens seen).toList) :
    leftSum f ens (seen.push e.born) = leftSum f ens seen - f e ∧ (leftOf ens (seen.push e.born)).size < (leftOf ens seen).size := by
  have h1 := mem_left he
  have hfun : (fun x : MapEntry => !(seen.push e.born).contains x.born) = fun x => (!seen.contains x.born) && !(x.born == e.born) := by
    funext x
    have : (seen.push e.born).contains x.born = (seen.contains x.born || x.born == e.born) := by
      rw [Array.contains_push]
    rw [this, Bool.not_or]
  obtain ⟨h2, h3⟩ := filter_less f ens.toList (fun x => !seen.contains x.born) e hB.nodup h1.1 (by simp only [h1.2, Bool.not_false])
  unfold leftSum
  rw [leftOf_list, hfun]
  refine ⟨?_, ?_⟩
  · rw [h2, ← leftOf_list]
  · rw [← Array.length_toList, ← Array.length_toList, leftOf_list, leftOf_list, hfun]
    omega

theorem left_start (f : MapEntry → Int) (ens : Array MapEntry) : leftSum f ens #[] = (ens.toList.map f).sum := by
  unfold leftSum
  rw [leftOf_list]
  congr 2
  exact List.filter_eq_self.2 (fun a _ => by simp)

theorem left_end (f : MapEntry → Int) {ens : Array MapEntry} {seen : Array Nat} (h : (leftOf ens seen).size = 0) : leftSum f ens seen = 0 := by
  unfold leftSum
  rw [← Array.length_toList, List.length_eq_zero_iff] at h
  rw [h]
  rfl

theorem left_bounds (f : MapEntry → Int) {ens : Array MapEntry} (seen : Array Nat) (h : ∀ e ∈ ens.toList, 0 ≤ f e) : 0 ≤ leftSum f ens seen ∧ leftSum f ens seen ≤ (ens.toList.map f).sum := by
  unfold leftSum
  rw [leftOf_list]
  generalize (fun e : MapEntry => !seen.contains e.born) = p
  revert h
  induction ens.toList with
  | nil => exact fun _ => ⟨Int.le_refl _, Int.le_refl _⟩
  | cons a l ih =>
    intro h
    have h1 := ih (fun e he => h e (List.mem_cons_of_mem _ he))
    have h2 := h a (List.mem_cons_self ..)
    cases hp : p a
    · rw [List.filter_cons_of_neg (by rw [hp]; decide), List.map_cons, List.sum_cons]
      omega
    · rw [List.filter_cons_of_pos hp, List.map_cons, List.map_cons, List.sum_cons, List.sum_cons]
      omega

section
variable {P : Program} (w : World) {ops : Array Oper} {rest : List Oper} {o : Oper} {a : Act} {Q : Exit → Act → World → Prop}

/-- 'range m'. -/
theorem wpList_range_it (hg : o.guard = none) (m : Operand) (t : TypeId) (hop : o.op = Op.range t m) (k e : TypeId) (ht : P.underlying t = some (.map k e)) (b : Nat) (ens : Array MapEntry) (clock : Nat)
    (hm : a.eval m = .map (some b)) (hb : w.heap[b]? = some (.map ens clock))
    (hK : ∀ w', IterAt w' b w.heap.size ens clock #[] → w.grownBy w' none → w'.heap.size = w.heap.size + 1 → wpList P ops Q rest (a.put o.dst (.pointer (some ⟨w.heap.size, 0, none⟩))) w') :
    wpList P ops Q (o :: rest) a w := by
  refine wpList_plain hg fun K' hK' => ?_
  have hrun := run_range_map w t k e b ens clock ht hb
  have hlt : b < w.heap.size := (Array.getElem?_eq_some_iff.1 hb).1
  unfold Oper.wp
  simp [execOp, hop, hm, hrun, Result.andThen]
  exact hK' _ _ (hK _ ⟨((heap_alloc w _).2 b hlt).trans hb, clock, (heap_alloc w _).1, Nat.le_refl _⟩ (World.grownBy_alloc w _ none) (by simp))

/-- The step. -/
theorem wpList_next_it (hg : o.guard = none) (it : Operand) (hop : o.op = Op.next it false) (b r : Nat) (ens : Array MapEntry) (clock : Nat) (seen : Array Nat) (hB : Born ens clock)
    (hit : a.eval it = .pointer (some ⟨r, 0, none⟩)) (h : IterAt w b r ens clock seen)
    (hDone : (leftOf ens seen).size = 0 → wpList P ops Q rest (a.put o.dst (.tuple #[.bool false])) w)
    (hMore : ∀ (e : MapEntry) (w' : World), e ∈ ens.toList → e ∈ (leftOf ens seen).toList → IterAt w' b r ens clock (seen.push e.born) → w.grownBy w' (some r) → w'.heap.size = w.heap.size →
      (Instr.entry (.pointer (some ⟨r, 0, none⟩))).run P w' = .ok (.tuple #[e.key, e.val]) w' → wpList P ops Q rest (a.put o.dst (.tuple #[.bool true, e.key, e.val])) w') :
    wpList P ops Q (o :: rest) a w := by
  have hne := h.ne
  obtain ⟨hb, c0, hr, hc⟩ := h
  refine wpList_plain hg fun K' hK' => ?_
  unfold Oper.wp
  rcases run_next_at (P := P) w o.type r b clock c0 seen ens clock hr hb hB.2 hc with ⟨h0, hrun⟩ | ⟨e, he, w1, hal, hrun⟩
  · simp [execOp, hop, hit, hrun, Result.andThen]
    exact hK' _ _ (hDone h0)
  · simp [execOp, hop, hit, hrun, Result.andThen]
    have hr1 : w1.heap[r]? = some (.mapIter (some b) clock seen c0) := by rcases hal with rfl | rfl <;> exact hr
    have hb1 : w1.heap[b]? = some (.map ens clock) := by rcases hal with rfl | rfl <;> exact hb
    have hset := heap_set (o' := .mapIter (some b) clock (seen.push e.born) clock) hr1
    have hb' : (setBlock w1 r (.mapIter (some b) clock (seen.push e.born) clock)).heap[b]? = some (.map ens clock) := (hset.2 b (fun e1 => hne e1.symm)).trans hb1
    have hem := (mem_left he).1
    refine hK' _ _ (hMore e _ hem he ⟨hb', clock, hset.1, Nat.le_refl _⟩ ⟨?_, ?_, ?_, ?_, ?_⟩ ?_ ?_)
    · rcases hal with rfl | rfl <;> rfl
    · rcases hal with rfl | rfl <;> rfl
    · rcases hal with rfl | rfl <;> rfl
    · rcases hal with rfl | rfl <;> simp [setBlock]
    · intro k hk hkr
      refine (hset.2 k (fun e1 => hkr (by rw [e1]))).trans ?_
      rcases hal with rfl | rfl <;> rfl
    · rcases hal with rfl | rfl <;> simp [setBlock]
    · exact run_entry_at _ r b clock seen ens clock e hset.1 hb' hem hB.nodup

end
end Go.Abs
