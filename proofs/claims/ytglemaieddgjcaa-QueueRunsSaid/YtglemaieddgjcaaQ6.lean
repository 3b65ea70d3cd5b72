/- Queue: heaps, in plain Lean. -/
import Derived.Test.YtglemaieddgjcaaQ5
namespace Go.Num
open Go.Abs Go.Proofs Go.Shelf

theorem lessR_iff {a b : Rec} : lessR a b = true ↔ recI a 0 < recI b 0 ∨ (recI a 0 = recI b 0 ∧ recI a 3 < recI b 3) := by
  unfold lessR
  split
  · rename_i h
    rw [decide_eq_true_iff]
    omega
  · rename_i h
    rw [decide_eq_true_iff]
    omega

/-- It does not come behind. -/
def leR (a b : Rec) : Prop := recI a 0 < recI b 0 ∨ (recI a 0 = recI b 0 ∧ recI a 3 ≤ recI b 3)

theorem leR_of_not {a b : Rec} (h : lessR a b = false) : leR b a := by
  have : ¬ lessR a b = true := by rw [h]; decide
  rw [lessR_iff] at this
  unfold leR
  omega
theorem leR_of {a b : Rec} (h : lessR a b = true) : leR a b := by
  rw [lessR_iff] at h
  unfold leR
  omega
theorem leR.trans {a b c : Rec} (h : leR a b) (k : leR b c) : leR a c := by unfold leR at *; omega
theorem leR.rfl' (a : Rec) : leR a a := Or.inr ⟨rfl, Int.le_refl _⟩

theorem swap_at (ll : List Rec) {i j : Nat} (hi : i < ll.length) (hj : j < ll.length) (k : Nat) : (swapL ll i j).getD k [] = if k = j then ll.getD i [] else if k = i then ll.getD j [] else ll.getD k [] := by
  unfold swapL
  simp only [List.getD_eq_getElem?_getD, List.getElem?_set, List.length_set]
  by_cases h1 : k = j
  · subst h1
    rw [if_pos rfl, if_pos rfl, if_pos hj]
    rfl
  · rw [if_neg (fun h => h1 h.symm), if_neg h1]
    by_cases h2 : k = i
    · subst h2
      rw [if_pos rfl, if_pos rfl, if_pos hi]
      rfl
    · rw [if_neg (fun h => h2 h.symm), if_neg h2]

theorem swap_perm (ll : List Rec) {i j : Nat} (hi : i < ll.length) (hj : j < ll.length) : (swapL ll i j).Perm ll := by
  have h := List.set_set_perm hi hj
  unfold swapL
  rw [List.getD_eq_getElem?_getD, List.getD_eq_getElem?_getD, List.getElem?_eq_getElem hi, List.getElem?_eq_getElem hj]
  exact h

/-- Of the first m, each whose parent's number is no less than b comes behind its parent. -/
def Heap (ll : List Rec) (b m : Nat) : Prop := ∀ k, 0 < k → k < m → b ≤ (k - 1) / 2 → leR (ll.getD ((k - 1) / 2) []) (ll.getD k [])

/-! up -/

def UpI (ll : List Rec) (j : Nat) : Prop :=
  (∀ k, 0 < k → k < ll.length → k ≠ j → leR (ll.getD ((k - 1) / 2) []) (ll.getD k [])) ∧ (∀ k, 0 < k → k < ll.length → (k - 1) / 2 = j → 0 < j → leR (ll.getD ((j - 1) / 2) []) (ll.getD k []))

theorem up_heap {ll : List Rec} {j : Nat} (hj : j < ll.length) (h : UpI ll j) : Heap (upL ll j) 0 ll.length ∧ (upL ll j).Perm ll := by
  have hstep : ∀ a b : List Rec × Nat, (a.1.Perm ll ∧ a.2 < ll.length ∧ UpI a.1 a.2) → upNx a = some b → (b.1.Perm ll ∧ b.2 < ll.length ∧ UpI b.1 b.2) ∧ b.2 < a.2 := by
    rintro ⟨l, j⟩ b ⟨h1, h2, h3, h4⟩ hb
    have hl : l.length = ll.length := h1.length_eq
    unfold upNx at hb
    simp only at hb h1 h2 h3 h4
    split at hb
    · cases hb
    rename_i h0
    split at hb
    · rename_i hless
      cases hb
      have hi : (j - 1) / 2 < l.length := by omega
      have hjl : j < l.length := by omega
      refine ⟨⟨(swap_perm l hi hjl).trans h1, by simp only; omega, ?_, ?_⟩, by simp only; omega⟩
      · intro k hk hkl hne
        simp only at hne
        rw [swapL_len] at hkl
        rw [swap_at l hi hjl, swap_at l hi hjl]
        by_cases hkj : k = j
        · subst hkj
          rw [if_neg (by omega), if_pos rfl, if_pos rfl]
          exact leR_of hless
        · rw [if_neg hkj, if_neg hne]
          by_cases hpj : (k - 1) / 2 = j
          · rw [if_pos hpj]
            exact h4 k hk hkl hpj (by omega)
          · rw [if_neg hpj]
            by_cases hpi : (k - 1) / 2 = (j - 1) / 2
            · rw [if_pos hpi]
              have := h3 k hk hkl hkj
              rw [hpi] at this
              exact (leR_of hless).trans this
            · rw [if_neg hpi]
              exact h3 k hk hkl hkj
      · intro k hk hkl hpk hi0
        simp only at hpk hi0
        rw [swapL_len] at hkl
        rw [swap_at l hi hjl, swap_at l hi hjl, if_neg (by simp only; omega), if_neg (by simp only; omega)]
        have hgp := h3 ((j - 1) / 2) hi0 hi (by omega)
        by_cases hkj : k = j
        · rw [if_pos hkj]
          exact hgp
        · rw [if_neg hkj, if_neg (by omega)]
          have := h3 k hk hkl hkj
          rw [hpk] at this
          exact hgp.trans this
    · cases hb
  have hinv := goOn_inv (next := upNx) (fun a b ha hb => (hstep a b ha hb).1) j (ll, j) ⟨List.Perm.refl _, hj, h⟩
  have hend := goOn_end hstep j (ll, j) ⟨List.Perm.refl _, hj, h⟩ (Nat.le_refl _)
  unfold upL
  generalize goOn upNx j (ll, j) = z at hinv hend ⊢
  refine ⟨fun k hk hkl _ => ?_, hinv.1⟩
  have hl := hinv.1.length_eq
  by_cases hkj : k = z.2
  · unfold upNx at hend
    split at hend
    · omega
    split at hend
    · cases hend
    · rename_i h0 hless
      rw [← hkj] at hless
      exact leR_of_not (Bool.eq_false_iff.2 hless)
  · exact hinv.2.2.1 k hk (by omega) hkj

theorem push_heap {ll : List Rec} (h : Heap ll 0 ll.length) (r : Rec) : Heap (pushL ll r) 0 (ll.length + 1) ∧ (pushL ll r).Perm (ll ++ [r]) := by
  have hl : (ll ++ [r]).length = ll.length + 1 := by simp
  have := up_heap (ll := ll ++ [r]) (j := ll.length) (by omega) ⟨fun k hk hkl hne => ?_, fun k hk hkl hp hj => by omega⟩
  · rw [hl] at this
    exact this
  · have e : ∀ i, i < ll.length → (ll ++ [r]).getD i [] = ll.getD i [] := fun i hi => by rw [List.getD_eq_getElem?_getD, List.getElem?_append_left hi, ← List.getD_eq_getElem?_getD]
    rw [e _ (by omega), e _ (by omega)]
    exact h k hk (by omega) (Nat.zero_le _)

/-! down -/

def DnI (ll : List Rec) (b m i : Nat) : Prop :=
  (∀ k, 0 < k → k < m → b ≤ (k - 1) / 2 → (k - 1) / 2 ≠ i → leR (ll.getD ((k - 1) / 2) []) (ll.getD k [])) ∧ (∀ k, 0 < k → k < m → (k - 1) / 2 = i → 0 < i → b ≤ (i - 1) / 2 → leR (ll.getD ((i - 1) / 2) []) (ll.getD k []))

theorem kid_min {l : List Rec} {m i : Nat} (h0 : 2 * i + 1 < m) : kid l m i < m ∧ 0 < kid l m i ∧ (kid l m i - 1) / 2 = i ∧ ∀ k, 0 < k → k < m → (k - 1) / 2 = i → leR (l.getD (kid l m i) []) (l.getD k []) := by
  unfold kid
  split
  · rename_i h
    refine ⟨h.1, by omega, by omega, fun k hk hkm hp => ?_⟩
    rcases (by omega : k = 2 * i + 1 ∨ k = 2 * i + 2) with rfl | rfl
    · exact leR_of h.2
    · exact leR.rfl' _
  · rename_i h
    refine ⟨h0, by omega, by omega, fun k hk hkm hp => ?_⟩
    rcases (by omega : k = 2 * i + 1 ∨ k = 2 * i + 2) with rfl | rfl
    · exact leR.rfl' _
    · exact leR_of_not (Bool.eq_false_iff.2 (fun hq => h ⟨hkm, hq⟩))

theorem dn_heap {ll : List Rec} {i m : Nat} (hi : i < ll.length) (hm : m ≤ ll.length) (h : DnI ll i m i) : Heap (dnL ll i m) i m ∧ (dnL ll i m).Perm ll ∧ ∀ k, m ≤ k → (i < m ∨ m = 0) → (dnL ll i m).getD k [] = ll.getD k [] := by
  have hstep : ∀ a b : List Rec × Nat, (a.1.Perm ll ∧ i ≤ a.2 ∧ a.2 < ll.length ∧ DnI a.1 i m a.2 ∧ ∀ k, m ≤ k → (i < m ∨ m = 0) → a.1.getD k [] = ll.getD k []) → dnNx m a = some b → (b.1.Perm ll ∧ i ≤ b.2 ∧ b.2 < ll.length ∧ DnI b.1 i m b.2 ∧ ∀ k, m ≤ k → (i < m ∨ m = 0) → b.1.getD k [] = ll.getD k []) ∧ m - b.2 < m - a.2 := by
    rintro ⟨l, j⟩ b ⟨h1, h2, h2', ⟨h3, h4⟩, h5⟩ hb
    have hl : l.length = ll.length := h1.length_eq
    unfold dnNx at hb
    simp only at hb h1 h2 h2' h3 h4 h5
    split at hb
    · cases hb
    rename_i h0
    split at hb
    · rename_i hless
      cases hb
      obtain ⟨k1, k2, k3, k4⟩ := kid_min (l := l) (m := m) (i := j) (by omega)
      have hjl : j < l.length := by omega
      have hkl : kid l m j < l.length := by omega
      have k5 := leR_of hless
      generalize kid l m j = c at *
      refine ⟨⟨(swap_perm l hjl hkl).trans h1, by simp only; omega, by simp only; omega, ⟨?_, ?_⟩, ?_⟩, by simp only; omega⟩
      · intro k hk hkm hbk hne
        simp only at hne
        rw [swap_at l hjl hkl, swap_at l hjl hkl, if_neg hne]
        by_cases hkc : k = c
        · subst hkc
          rw [if_pos k3, if_pos rfl]
          exact k5
        · rw [if_neg hkc]
          by_cases hpj : (k - 1) / 2 = j
          · rw [if_pos hpj, if_neg (by omega)]
            exact k4 k hk hkm hpj
          · rw [if_neg hpj]
            by_cases hkj : k = j
            · subst hkj
              rw [if_pos rfl]
              exact h4 c k2 k1 k3 hk hbk
            · rw [if_neg hkj]
              exact h3 k hk hkm hbk hpj
      · intro k hk hkm hpk hc hbk
        simp only at hpk hc hbk
        rw [swap_at l hjl hkl, swap_at l hjl hkl, if_neg (by simp only; omega), if_pos k3, if_neg (by omega), if_neg (by omega)]
        have := h3 k hk hkm (by omega) (by omega)
        rw [hpk] at this
        exact this
      · intro k hk hq
        rw [swap_at l hjl hkl, if_neg (by omega), if_neg (by omega)]
        exact h5 k hk hq
    · cases hb
  have h0 : (ll, i).1.Perm ll ∧ i ≤ (ll, i).2 ∧ (ll, i).2 < ll.length ∧ DnI (ll, i).1 i m (ll, i).2 ∧ ∀ k, m ≤ k → (i < m ∨ m = 0) → (ll, i).1.getD k [] = ll.getD k [] := ⟨List.Perm.refl _, Nat.le_refl _, hi, h, fun _ _ _ => rfl⟩
  have hinv := goOn_inv (next := dnNx m) (fun a b ha hb => (hstep a b ha hb).1) (m - i) (ll, i) h0
  have hend := goOn_end hstep (m - i) (ll, i) h0 (Nat.le_refl _)
  unfold dnL dnR
  generalize goOn (dnNx m) (m - i) (ll, i) = z at hinv hend ⊢
  refine ⟨fun k hk hkm hb => ?_, hinv.1, hinv.2.2.2.2⟩
  by_cases hp : (k - 1) / 2 = z.2
  · unfold dnNx at hend
    split at hend
    · omega
    split at hend
    · cases hend
    · rename_i h0 hless
      obtain ⟨k1, k2, k3, k4⟩ := kid_min (l := z.1) (m := m) (i := z.2) (by omega)
      rw [hp]
      exact (leR_of_not (Bool.eq_false_iff.2 hless)).trans (k4 k hk hkm hp)
  · exact hinv.2.2.2.1.1 k hk hkm hb hp

/-- The root of a heap comes behind nobody. -/
theorem heap_root {ll : List Rec} {m : Nat} (h : Heap ll 0 m) : ∀ k, k < m → leR (ll.getD 0 []) (ll.getD k []) := by
  intro k
  induction k using Nat.strongRecOn with
  | ind k ih =>
    intro hk
    by_cases h0 : k = 0
    · subst h0
      exact leR.rfl' _
    · exact (ih ((k - 1) / 2) (by omega) (by omega)).trans (h k (by omega) hk (Nat.zero_le _))

theorem pop_heap {ll : List Rec} (h : Heap ll 0 ll.length) (h0 : 0 < ll.length) : Heap (popL ll) 0 (popL ll).length ∧ (popE ll :: popL ll).Perm ll ∧ popE ll = ll.getD 0 [] := by
  have hl : (swapL ll 0 (ll.length - 1)).length = ll.length := swapL_len ..
  have hs := swap_at ll (i := 0) (j := ll.length - 1) h0 (by omega)
  have hd := dn_heap (ll := swapL ll 0 (ll.length - 1)) (i := 0) (m := ll.length - 1) (by omega) (by omega) ⟨fun k hk hkm _ hp => ?_, fun k hk hkm hp hi => absurd hi (by decide)⟩
  · obtain ⟨h1, h2, h3⟩ := hd
    have h2 := h2.trans (swap_perm ll h0 (by omega : ll.length - 1 < ll.length))
    have hlen : (popD ll).length = ll.length := h2.length_eq
    have hpl : (popL ll).length = ll.length - 1 := by unfold popL; rw [List.length_take]; omega
    have e : ∀ i, i < ll.length - 1 → (popL ll).getD i [] = (popD ll).getD i [] := fun i hi => by
      unfold popL
      rw [List.getD_eq_getElem?_getD, List.getElem?_take_of_lt hi, ← List.getD_eq_getElem?_getD]
    have hE : popE ll = ll.getD 0 [] := by
      unfold popE popD
      rw [h3 (ll.length - 1) (Nat.le_refl _) (by omega), hs, if_pos rfl]
    refine ⟨fun k hk hkl hb => ?_, ?_, hE⟩
    · rw [e _ (by omega), e _ (by omega)]
      exact h1 k hk (by omega) hb
    · have h5 : popD ll = popL ll ++ [popE ll] := by
        unfold popL popE
        rw [← take_getD (by omega), List.take_of_length_le (by omega)]
      exact (List.perm_append_singleton (popE ll) (popL ll)).symm.trans (h5 ▸ h2)
  · rw [hs, hs, if_neg (by omega), if_neg (by omega), if_neg (by omega), if_neg (by omega)]
    exact h k hk (by omega) (Nat.zero_le _)

theorem init_heap (ll : List Rec) : Heap (initL ll) 0 ll.length ∧ (initL ll).Perm ll := by
  have hstep : ∀ a b : List Rec × Nat, (a.1.Perm ll ∧ a.2 ≤ ll.length / 2 ∧ Heap a.1 a.2 ll.length) → inNx ll.length a = some b → (b.1.Perm ll ∧ b.2 ≤ ll.length / 2 ∧ Heap b.1 b.2 ll.length) ∧ b.2 < a.2 := by
    rintro ⟨l, j⟩ b ⟨h1, h2, h3⟩ hb
    have hl : l.length = ll.length := h1.length_eq
    unfold inNx at hb
    simp only at hb h1 h2 h3
    split at hb
    · cases hb
    rename_i h0
    cases hb
    have hd := dn_heap (ll := l) (i := j - 1) (m := ll.length) (by omega) (by omega) ⟨fun k hk hkm hb hne => h3 k hk hkm (by omega), fun k hk hkm hp hi hb => by omega⟩
    exact ⟨⟨hd.2.1.trans h1, by simp only; omega, hd.1⟩, by simp only; omega⟩
  have h0 : (ll, ll.length / 2).1.Perm ll ∧ (ll, ll.length / 2).2 ≤ ll.length / 2 ∧ Heap (ll, ll.length / 2).1 (ll, ll.length / 2).2 ll.length := ⟨List.Perm.refl _, Nat.le_refl _, fun k hk hkm hb => by simp only at hb; omega⟩
  have hinv := goOn_inv (next := inNx ll.length) (fun a b ha hb => (hstep a b ha hb).1) (ll.length / 2) (ll, ll.length / 2) h0
  have hend := goOn_end hstep (ll.length / 2) (ll, ll.length / 2) h0 (Nat.le_refl _)
  unfold initL
  generalize goOn (inNx ll.length) (ll.length / 2) (ll, ll.length / 2) = z at hinv hend ⊢
  unfold inNx at hend
  split at hend
  · rename_i hz
    refine ⟨?_, hinv.1⟩
    have := hinv.2.2
    rw [hz] at this
    exact this
  · cases hend

end Go.Num
