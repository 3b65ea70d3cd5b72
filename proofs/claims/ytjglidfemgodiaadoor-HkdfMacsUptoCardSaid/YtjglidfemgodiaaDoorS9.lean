/- SHA-256: a hash that has taken some bytes; the digest is the reference's. -/
import Derived.Test.YtjglidfemgodiaaDoorS8
namespace Go.Num
open Go.Abs Go.Proofs Go.Shelf

theorem eat_append (s a b : List Int) : ∀ k, 64 * k ≤ a.length → eat s (a ++ b) k = eat s a k
  | 0, _ => rfl
  | k + 1, h => by
    show takeF (eat s (a ++ b) k) _ = takeF (eat s a k) _
    rw [eat_append s a b k (by omega), List.drop_append_of_le_length (by omega), List.take_append_of_le_length (by rw [List.length_drop]; omega)]

theorem eat_add (s l : List Int) (i : Nat) : ∀ j, eat s l (i + j) = eat (eat s l i) (l.drop (64 * i)) j
  | 0 => rfl
  | j + 1 => by
    show takeF (eat s l (i + j)) ((l.drop (64 * (i + j))).take 64) = takeF (eat (eat s l i) (l.drop (64 * i)) j) (((l.drop (64 * i)).drop (64 * j)).take 64)
    rw [eat_add s l i j, List.drop_drop, show 64 * i + 64 * j = 64 * (i + j) from by omega]

/-- A hash that has taken these bytes. -/
structure Took (all s r : List Int) : Prop where
  len : r.length = 64
  state : all.length ≠ 0 → s = eat firstL all (all.length / 64)
  rest : r.take (all.length % 64) = all.drop (64 * (all.length / 64))

theorem took_none (s : List Int) {r : List Int} (h : r.length = 64) : Took [] s r := ⟨h, fun h => (h rfl).elim, by simp⟩

theorem over_take {r l : List Int} {lo : Nat} (h : lo + l.length ≤ r.length) : (over r lo l).take (lo + l.length) = r.take lo ++ l := by
  unfold over
  have hl : (r.take lo ++ l).length = lo + l.length := by rw [List.length_append, List.length_take]; omega
  rw [← hl]
  exact List.take_left

theorem took_write {all s r : List Int} (h : Took all s r) (l : List Int) : Took (all ++ l) (writeS s r all.length l) (writeR s r all.length l) := by
  obtain ⟨h1, h2, h3⟩ := h
  have hN : (all ++ l).length = all.length + l.length := List.length_append
  unfold writeS writeR writeF
  by_cases ha : all.length % 64 = 0
  · rw [if_pos ha]
    have hs : (if all.length = 0 then firstL else s) = eat firstL all (all.length / 64) := by
      by_cases h0 : all.length = 0
      · rw [if_pos h0, h0]; rfl
      · rw [if_neg h0]; exact h2 h0
    rw [hs]
    have hq : (all.length + l.length) / 64 = all.length / 64 + l.length / 64 := by omega
    have hd : (all ++ l).drop (64 * (all.length / 64)) = l := by
      rw [show 64 * (all.length / 64) = all.length from by omega]; exact List.drop_left
    have htk : ((l.drop (64 * (l.length / 64))).take 64) = l.drop (64 * (l.length / 64)) := List.take_of_length_le (by rw [List.length_drop]; omega)
    refine ⟨?_, fun _ => ?_, ?_⟩
    · show (over r 0 _).length = 64
      rw [over_length (by rw [htk, List.length_drop]; omega)]; exact h1
    · show eat (eat firstL all (all.length / 64)) l (l.length / 64) = _
      rw [hN, hq, eat_add, hd, eat_append _ _ _ _ (by omega)]
    · show (over r 0 _).take _ = _
      rw [htk, hN]
      have e : (all.length + l.length) % 64 = 0 + (l.drop (64 * (l.length / 64))).length := by rw [List.length_drop]; omega
      rw [e, over_take (by rw [List.length_drop]; omega), List.take_zero, List.nil_append, hq, Nat.mul_add, ← List.drop_drop, hd]
  · rw [if_neg ha]
    have h0 : all.length ≠ 0 := fun e => ha (by rw [e])
    by_cases hf : all.length % 64 + l.length < 64
    · rw [if_pos hf]
      have hl : l.take (64 - all.length % 64) = l := List.take_of_length_le (by omega)
      have hq : (all.length + l.length) / 64 = all.length / 64 := by omega
      refine ⟨?_, fun _ => ?_, ?_⟩
      · show (over r _ _).length = 64
        rw [hl, over_length (by omega)]; exact h1
      · show s = _
        rw [hN, hq, eat_append _ _ _ _ (by omega)]; exact h2 h0
      · show (over r _ _).take _ = _
        rw [hl, hN, show (all.length + l.length) % 64 = all.length % 64 + l.length from by omega, over_take (by omega), h3, hq, List.drop_append_of_le_length (by omega)]
    · rw [if_neg hf]
      have hl : (l.take (64 - all.length % 64)).length = 64 - all.length % 64 := by rw [List.length_take]; omega
      have hr1 : over r (all.length % 64) (l.take (64 - all.length % 64)) = ((all ++ l).drop (64 * (all.length / 64))).take 64 := by
        unfold over
        rw [hl, show all.length % 64 + (64 - all.length % 64) = 64 from by omega, List.drop_of_length_le (by omega), List.append_nil, h3, List.drop_append_of_le_length (by omega), List.take_append]
        rw [List.take_of_length_le (l := List.drop (64 * (all.length / 64)) all) (by rw [List.length_drop]; omega), List.length_drop, show 64 - (all.length - 64 * (all.length / 64)) = 64 - all.length % 64 from by omega]
      have hs1 : takeF s (over r (all.length % 64) (l.take (64 - all.length % 64))) = eat firstL (all ++ l) (all.length / 64 + 1) := by
        rw [hr1, h2 h0]
        show _ = takeF (eat firstL (all ++ l) (all.length / 64)) _
        rw [eat_append _ _ _ _ (by omega)]
      rw [hs1]
      have hd : (all ++ l).drop (64 * (all.length / 64 + 1)) = l.drop (64 - all.length % 64) := by
        rw [List.drop_append, List.drop_of_length_le (by omega), List.nil_append, show 64 * (all.length / 64 + 1) - all.length = 64 - all.length % 64 from by omega]
      generalize hl1 : l.drop (64 - all.length % 64) = l1 at hd
      have hl1l : l1.length = l.length - (64 - all.length % 64) := by rw [← hl1, List.length_drop]
      have hq : (all.length + l.length) / 64 = (all.length / 64 + 1) + l1.length / 64 := by omega
      have htk : ((l1.drop (64 * (l1.length / 64))).take 64) = l1.drop (64 * (l1.length / 64)) := List.take_of_length_le (by rw [List.length_drop]; omega)
      have hrl : (over r (all.length % 64) (l.take (64 - all.length % 64))).length = 64 := by rw [over_length (by omega)]; exact h1
      refine ⟨?_, fun _ => ?_, ?_⟩
      · show (over _ 0 _).length = 64
        rw [over_length (by rw [htk, List.length_drop, hrl]; omega)]; exact hrl
      · show eat (eat firstL (all ++ l) (all.length / 64 + 1)) l1 (l1.length / 64) = _
        have := eat_add firstL (all ++ l) (all.length / 64 + 1) (l1.length / 64)
        rw [hd] at this
        rw [hN, hq]
        exact this.symm
      · show (over _ 0 _).take _ = _
        rw [htk, hN]
        have e : (all.length + l.length) % 64 = 0 + (l1.drop (64 * (l1.length / 64))).length := by rw [List.length_drop]; omega
        rw [e, over_take (by rw [List.length_drop, hrl]; omega), List.take_zero, List.nil_append, hq, Nat.mul_add, ← List.drop_drop, hd]

/-! What is laid behind. -/

def tailB (N : Nat) : Nat → List Int
  | 0 => []
  | i + 1 => tailB N i ++ [rfB N (7 - (i : Int))]

theorem tailB_len (N : Nat) : ∀ i, (tailB N i).length = i
  | 0 => rfl
  | i + 1 => by simp [tailB, tailB_len N i]

theorem rfM2_eq (l : List Int) : ∀ j, rfM2 l j = l ++ (128 :: List.replicate (padN l.length) 0 ++ tailB l.length j)
  | 0 => by simp [rfM2, rfM1, tailB]
  | j + 1 => by
    show rfM2 l j ++ _ = _
    rw [rfM2_eq l j]
    simp [tailB]

theorem set_at {a b : List Int} {x y : Int} {i : Nat} (h : i = a.length) : (a ++ y :: b).set i x = a ++ x :: b := by
  subst h
  rw [List.set_append_right _ _ (Nat.le_refl _), Nat.sub_self, List.set_cons_zero]

theorem tailS_eq (N : Nat) : ∀ i, i ≤ 8 → tailS N i = (128 :: List.replicate (padN N) 0 ++ tailB N i) ++ List.replicate (71 - padN N - i) 0
  | 0, _ => by
    have hp : padN N < 64 := by unfold padN; omega
    show tail0 = _
    unfold tail0 tailB
    rw [List.append_nil, Nat.sub_zero, List.cons_append, List.replicate_append_replicate, show padN N + (71 - padN N) = 71 from by omega]
  | i + 1, hi => by
    have hp : padN N < 64 := by unfold padN; omega
    show (tailS N i).set _ _ = _
    rw [tailS_eq N i (by omega), show 71 - padN N - i = (71 - padN N - (i + 1)) + 1 from by omega, List.replicate_succ]
    rw [set_at (by simp [tailB_len]; omega)]
    have hb : IntKind.u8.wrap (Int.fdiv (IntKind.u64.wrap (IntKind.u64.wrap (N : Int) * 8)) (2 ^ min (56 - 8 * (i : Int)).toNat 64)) = rfB N (7 - (i : Int)) := by
      unfold rfB rfZ
      rw [show (IntKind.u64.wrap (8 * (7 - (i : Int)))).toNat = (56 - 8 * (i : Int)).toNat from by rw [IntKind.wrap_u64]; omega]
    rw [hb]
    simp [tailB]

theorem tailF_eq (N : Nat) : tailF N = 128 :: List.replicate (padN N) 0 ++ tailB N 8 := by
  have hp : padN N < 64 := by unfold padN; omega
  unfold tailF
  rw [tailS_eq N 8 (Nat.le_refl _)]
  have hl : (128 :: List.replicate (padN N) 0 ++ tailB N 8).length = padN N + 9 := by simp [tailB_len]
  rw [← hl]
  exact List.take_left

theorem rfB_inB (N : Nat) (i : Int) : 0 ≤ rfB N i ∧ rfB N i < 256 := by
  unfold rfB
  rw [IntKind.wrap_u8]
  omega

theorem tailB_inB (N : Nat) : ∀ i, InB (tailB N i)
  | 0 => fun x h => by cases h
  | i + 1 => fun x h => by
    rcases List.mem_append.1 h with h | h
    · exact tailB_inB N i x h
    · simp only [List.mem_singleton] at h
      subst h
      exact rfB_inB N _

theorem rfM2_inB {l : List Int} (hl : InB l) : InB (rfM2 l 8) := by
  rw [rfM2_eq]
  intro x hx
  rcases List.mem_append.1 hx with h | h
  · exact hl x h
  · rcases List.mem_append.1 h with h | h
    · rcases List.mem_cons.1 h with h | h
      · subst h; omega
      · have := (List.mem_replicate.1 h).2; subst this; omega
    · exact tailB_inB _ _ x h

/-! What comes out. -/

def ob (s : List Int) (i : Nat) : Int := IntKind.u8.wrap (Int.fdiv (s.getD (i / 4) 0) (2 ^ (24 - 8 * (i % 4))))

theorem outS_eq (s : List Int) : ∀ i, i ≤ 32 → outS s i = (List.range i).map (ob s) ++ List.replicate (32 - i) 0
  | 0, _ => by simp [outS]
  | i + 1, hi => by
    show (outS s i).set _ _ = _
    rw [outS_eq s i (by omega), show 32 - i = (32 - (i + 1)) + 1 from by omega, List.replicate_succ, Int.toNat_natCast, set_at (by simp), List.range_succ]
    have hd : IntKind.i64.wrap (Int.tdiv (i : Int) 4) = ((i / 4 : Nat) : Int) := by
      rcases tdiv_small i with h | h
      · exact h
      · omega
    have hm : Int.tmod (i : Int) 4 = ((i % 4 : Nat) : Int) := tmod_nat i 4
    have e : IntKind.u8.wrap (Int.fdiv (s.getD (IntKind.i64.wrap (Int.tdiv (i : Int) 4)).toNat 0) (2 ^ min (24 - 8 * Int.tmod (i : Int) 4).toNat 32)) = ob s i := by
      unfold ob
      rw [hd, hm, Int.toNat_natCast, show min (24 - 8 * ((i % 4 : Nat) : Int)).toNat 32 = 24 - 8 * (i % 4) from by omega]
    rw [e]
    simp

theorem rfO_eq (s : List Int) : ∀ i, rfO s i = (List.range (4 * i)).map (ob s)
  | 0 => rfl
  | i + 1 => by
    show rfO s i ++ _ = _
    rw [rfO_eq s i, show 4 * (i + 1) = 4 * i + 1 + 1 + 1 + 1 from by omega, List.range_succ, List.range_succ, List.range_succ, List.range_succ, Int.toNat_natCast]
    have e0 : ob s (4 * i) = IntKind.u8.wrap ((s.getD i 0).fdiv (2 ^ min 24 32)) := by
      unfold ob; rw [show 4 * i / 4 = i from by omega, show 24 - 8 * (4 * i % 4) = min 24 32 from by omega]
    have e1 : ob s (4 * i + 1) = IntKind.u8.wrap ((s.getD i 0).fdiv (2 ^ min 16 32)) := by
      unfold ob; rw [show (4 * i + 1) / 4 = i from by omega, show 24 - 8 * ((4 * i + 1) % 4) = min 16 32 from by omega]
    have e2 : ob s (4 * i + 1 + 1) = IntKind.u8.wrap ((s.getD i 0).fdiv (2 ^ min 8 32)) := by
      unfold ob; rw [show (4 * i + 1 + 1) / 4 = i from by omega, show 24 - 8 * ((4 * i + 1 + 1) % 4) = min 8 32 from by omega]
    have e3 : ob s (4 * i + 1 + 1 + 1) = IntKind.u8.wrap (s.getD i 0) := by
      unfold ob; rw [show (4 * i + 1 + 1 + 1) / 4 = i from by omega, show 24 - 8 * ((4 * i + 1 + 1 + 1) % 4) = 0 from by omega]; simp
    simp only [List.map_append, List.map_cons, List.map_nil, e0, e1, e2, e3, List.append_assoc, List.cons_append, List.nil_append]

theorem out_same (s : List Int) : outS s 32 = rfO s 8 := by
  rw [outS_eq s 32 (Nat.le_refl _), rfO_eq]
  simp

/-- **The digest of a hash that has taken some bytes is the reference's.** -/
theorem sum_same {all s r : List Int} (hb : InB all) (h : Took all s r) : sumF s r all.length = rfSum all := by
  obtain ⟨_, h2, _⟩ := took_write h (tailF all.length)
  have hm : all ++ tailF all.length = rfM2 all 8 := by rw [tailF_eq, rfM2_eq]
  rw [hm] at h2
  have hl := rfM2_len all 8
  unfold sumF rfSum
  rw [h2 (by omega), rfH_eat (rfM2_inB hb), out_same]

theorem of_took (ll : List (List Int)) : ∀ k, k ≤ ll.length → Took ((ll.take k).flatten) (ofSR ll k).1 (ofSR ll k).2 ∧ ((ll.take k).flatten).length = ofN ll k
  | 0, _ => ⟨by rw [List.take_zero]; exact took_none _ rfl, by simp [ofN]⟩
  | k + 1, hk => by
    obtain ⟨h1, h2⟩ := of_took ll k (by omega)
    have e : (ll.take (k + 1)).flatten = (ll.take k).flatten ++ ll.getD k [] := by
      rw [List.take_succ_eq_append_getElem hk, List.flatten_append, List.getD_eq_getElem?_getD, List.getElem?_eq_getElem hk]
      simp
    rw [e]
    refine ⟨?_, by rw [List.length_append, h2, ofN_succ hk]⟩
    have := took_write h1 (ll.getD k [])
    rw [h2] at this
    exact this

theorem of_same {ll : List (List Int)} (hb : InB ll.flatten) : ofF ll = rfSum ll.flatten := by
  obtain ⟨h1, h2⟩ := of_took ll ll.length (Nat.le_refl _)
  rw [List.take_length] at h1 h2
  unfold ofF
  rw [← h2]
  exact sum_same hb h1

end Go.Num
