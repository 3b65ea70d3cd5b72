/- Disk: Free: a range over the files, by hand. -/
import Derived.Test.YtakigppkbolmnaaD2
import Derived.Test.YtakigppkbolmnaaRange
namespace Go.Num
open Go.Abs Go.Proofs Go.Shelf Go.RowKit Go.Maps

set_option maxRecDepth 100000 in
theorem free_walk (b g : Nat) (room : Int) (ens : Array MapEntry) (clock : Nat) (f : MapEntry → Int) (w : World) (hb : w.heap[b]? = some (.map ens clock)) (hB : Born ens clock)
    (hv : ∀ e ∈ ens.toList, ∃ a m k, e.val = .agg #[.slice a m k, .int .i64 (f e)]) (hn : ∀ e ∈ ens.toList, 0 ≤ f e) (ht : (ens.toList.map f).sum ≤ 1152921504606846976) (hr0 : -1099511627776 ≤ room) (hr1 : room ≤ 1099511627776)
    (h0 : w.cell? ⟨g, 0, none⟩ = some (.int .i64 room)) (h1 : w.cell? ⟨g, 1, none⟩ = some (.map (some b))) :
    Calls Try.prog 17 #[.pointer (some ⟨g, 0, none⟩)] w fun e w' => e = .returned (.int .i64 (room - (ens.toList.map f).sum)) ∧ w.grownBy w' none := by
  go_enter Try.func17, Try.ntmps17
  go_wp2_with (first
    | (at_range; refine wpList_range_it _ rfl _ 64 rfl 9 68 Try.underlying64 b ens clock rfl hb ?_; intro w0 hrg0 hg0 hs0)
    | go_in)
  go_frame
  go_loopw [3] (fun v wr => ∃ seen, IterAt wr b w.heap.size ens clock seen ∧ v = .int .i64 (room - ((ens.toList.map f).sum - leftSum f ens seen)) ∧ w.grownBy wr none)
    (fun _ wr => match wr.heap[w.heap.size]? with | some (.mapIter _ _ seen _) => (leftOf ens seen).size | _ => 0)
  case atStart => exact ⟨#[], hrg0, by rw [left_start]; simp, hg0⟩
  case round =>
    obtain ⟨seen, hrg, rfl, hgw⟩ := hrel
    have hμ : ∀ {wr : World} {seen : Array Nat}, IterAt wr b w.heap.size ens clock seen → (match wr.heap[w.heap.size]? with | some (.mapIter _ _ seen _) => (leftOf ens seen).size | _ => 0) = (leftOf ens seen).size := by
      intro wr seen h
      obtain ⟨_, c0, h2, _⟩ := h
      rw [h2]
    go_wp2_with (first
      | (at_next; refine wpList_next_it _ rfl _ rfl b w.heap.size ens clock seen hB rfl hrg ?_ ?_)
      | go_in)
    · intro hl0
      go_wp2
      go_ret
      refine ⟨?_, hgw⟩
      rw [left_end f (by rw [hl0]; rfl), Int.sub_zero]
      rfl
    · intro e w1 he hel hrg1 hg1 hs1 hen
      obtain ⟨a, m, k, hev⟩ := hv e (by simpa using he)
      rw [hev] at hen ⊢
      obtain ⟨hs, hlt⟩ := left_next f hB (by simpa using hel)
      have hle := left_bounds f (seen.push e.born) hn
      have hle0 := left_bounds f seen hn
      have hgw1 := hgw.andThen hg1 (fun j hj => by cases hj; exact Or.inl (Nat.le_refl _))
      go_wp2
      refine ⟨⟨_, hrg1.kept (World.grownBy_alloc w1 _ none) (by simp) (by simp), ?_, hgw1.andThen (World.grownBy_alloc _ _ none) (fun j hj => by cases hj)⟩, ?_⟩
      · rw [hs]
        congr 1
        omega
      · rw [hμ (hrg1.kept (World.grownBy_alloc w1 _ none) (by simp) (by simp)), hμ hrg]
        exact hlt

end Go.Num
