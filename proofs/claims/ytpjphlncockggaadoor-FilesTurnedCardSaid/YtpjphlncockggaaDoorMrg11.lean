/- Several texts put together: S9 Fl1 Fl2 Fl3 Fl4 D13 D14 R1 D15 Fl5 Fl6 Fl7 Fl8 Fl9 Fl10 Im1. -/
import Derived.Test.YtpjphlncockggaaDoorMrg10
namespace Go.Num
open Go.Abs Go.Proofs Go.Shelf
theorem eat_append (s a b : List Int) : ∀ k, 64 * k ≤ a.length → eat s (a ++ b) k = eat s a k
  | 0, _ => rfl
  | k + 1, h => by
    show takeF (eat s (a ++ b) k) _ = takeF (eat s a k) _
    rw [eat_append s a b k (by omega), List.drop_append_of_le_length (by omega), List.take_append_of_le_length (by rw [List.length_drop]; omega)]
theorem eat_add (s l : List Int) (i : Nat) : ∀ j, eat s l (i + j) = eat (eat s l i) (l.drop (64 * i)) j
  | 0 => rfl
  | j + 1 => by
    show takeF (eat s l (i + j)) ((l.drop (64 * (i + j))).take 64) = takeF (eat (eat s l i) (l.drop (64 * i)) j) (((l.drop (64 * i)).drop (64 * j)).take 64)
    rw [eat_add s l i j, List.drop_drop, show 64 * i + 64 * j = 64 * (i + j) from by omega]
structure Took (all s r : List Int) : Prop where
  len : r.length = 64
  state : all.length ≠ 0 → s = eat firstL all (all.length / 64)
  rest : r.take (all.length % 64) = all.drop (64 * (all.length / 64))
theorem took_none (s : List Int) {r : List Int} (h : r.length = 64) : Took [] s r := ⟨h, fun h => (h rfl).elim, by simp⟩
theorem over_take {r l : List Int} {lo : Nat} (h : lo + l.length ≤ r.length) : (over r lo l).take (lo + l.length) = r.take lo ++ l := by
  unfold over
  have hl : (r.take lo ++ l).length = lo + l.length := by rw [List.length_append, List.length_take]; omega
  rw [← hl]
  exact List.take_left
theorem took_write {all s r : List Int} (h : Took all s r) (l : List Int) : Took (all ++ l) (writeS s r all.length l) (writeR s r all.length l) := by
  obtain ⟨h1, h2, h3⟩ := h
  have hN : (all ++ l).length = all.length + l.length := List.length_append
  unfold writeS writeR writeF
  by_cases ha : all.length % 64 = 0
  · rw [if_pos ha]
    have hs : (if all.length = 0 then firstL else s) = eat firstL all (all.length / 64) := by
      by_cases h0 : all.length = 0
      · rw [if_pos h0, h0]; rfl
      · rw [if_neg h0]; exact h2 h0
    rw [hs]
    have hq : (all.length + l.length) / 64 = all.length / 64 + l.length / 64 := by omega
    have hd : (all ++ l).drop (64 * (all.length / 64)) = l := by
      rw [show 64 * (all.length / 64) = all.length from by omega]; exact List.drop_left
    have htk : ((l.drop (64 * (l.length / 64))).take 64) = l.drop (64 * (l.length / 64)) := List.take_of_length_le (by rw [List.length_drop]; omega)
    refine ⟨?_, fun _ => ?_, ?_⟩
    · show (over r 0 _).length = 64
      rw [over_length (by rw [htk, List.length_drop]; omega)]; exact h1
    · show eat (eat firstL all (all.length / 64)) l (l.length / 64) = _
      rw [hN, hq, eat_add, hd, eat_append _ _ _ _ (by omega)]
    · show (over r 0 _).take _ = _
      rw [htk, hN]
      have e : (all.length + l.length) % 64 = 0 + (l.drop (64 * (l.length / 64))).length := by rw [List.length_drop]; omega
      rw [e, over_take (by rw [List.length_drop]; omega), List.take_zero, List.nil_append, hq, Nat.mul_add, ← List.drop_drop, hd]
  · rw [if_neg ha]
    have h0 : all.length ≠ 0 := fun e => ha (by rw [e])
    by_cases hf : all.length % 64 + l.length < 64
    · rw [if_pos hf]
      have hl : l.take (64 - all.length % 64) = l := List.take_of_length_le (by omega)
      have hq : (all.length + l.length) / 64 = all.length / 64 := by omega
      refine ⟨?_, fun _ => ?_, ?_⟩
      · show (over r _ _).length = 64
        rw [hl, over_length (by omega)]; exact h1
      · show s = _
        rw [hN, hq, eat_append _ _ _ _ (by omega)]; exact h2 h0
      · show (over r _ _).take _ = _
        rw [hl, hN, show (all.length + l.length) % 64 = all.length % 64 + l.length from by omega, over_take (by omega), h3, hq, List.drop_append_of_le_length (by omega)]
    · rw [if_neg hf]
      have hl : (l.take (64 - all.length % 64)).length = 64 - all.length % 64 := by rw [List.length_take]; omega
      have hr1 : over r (all.length % 64) (l.take (64 - all.length % 64)) = ((all ++ l).drop (64 * (all.length / 64))).take 64 := by
        unfold over
        rw [hl, show all.length % 64 + (64 - all.length % 64) = 64 from by omega, List.drop_of_length_le (by omega), List.append_nil, h3, List.drop_append_of_le_length (by omega), List.take_append]
        rw [List.take_of_length_le (l := List.drop (64 * (all.length / 64)) all) (by rw [List.length_drop]; omega), List.length_drop, show 64 - (all.length - 64 * (all.length / 64)) = 64 - all.length % 64 from by omega]
      have hs1 : takeF s (over r (all.length % 64) (l.take (64 - all.length % 64))) = eat firstL (all ++ l) (all.length / 64 + 1) := by
        rw [hr1, h2 h0]
        show _ = takeF (eat firstL (all ++ l) (all.length / 64)) _
        rw [eat_append _ _ _ _ (by omega)]
      rw [hs1]
      have hd : (all ++ l).drop (64 * (all.length / 64 + 1)) = l.drop (64 - all.length % 64) := by
        rw [List.drop_append, List.drop_of_length_le (by omega), List.nil_append, show 64 * (all.length / 64 + 1) - all.length = 64 - all.length % 64 from by omega]
      generalize hl1 : l.drop (64 - all.length % 64) = l1 at hd
      have hl1l : l1.length = l.length - (64 - all.length % 64) := by rw [← hl1, List.length_drop]
      have hq : (all.length + l.length) / 64 = (all.length / 64 + 1) + l1.length / 64 := by omega
      have htk : ((l1.drop (64 * (l1.length / 64))).take 64) = l1.drop (64 * (l1.length / 64)) := List.take_of_length_le (by rw [List.length_drop]; omega)
      have hrl : (over r (all.length % 64) (l.take (64 - all.length % 64))).length = 64 := by rw [over_length (by omega)]; exact h1
      refine ⟨?_, fun _ => ?_, ?_⟩
      · show (over _ 0 _).length = 64
        rw [over_length (by rw [htk, List.length_drop, hrl]; omega)]; exact hrl
      · show eat (eat firstL (all ++ l) (all.length / 64 + 1)) l1 (l1.length / 64) = _
        have := eat_add firstL (all ++ l) (all.length / 64 + 1) (l1.length / 64)
        rw [hd] at this
        rw [hN, hq]
        exact this.symm
      · show (over _ 0 _).take _ = _
        rw [htk, hN]
        have e : (all.length + l.length) % 64 = 0 + (l1.drop (64 * (l1.length / 64))).length := by rw [List.length_drop]; omega
        rw [e, over_take (by rw [List.length_drop, hrl]; omega), List.take_zero, List.nil_append, hq, Nat.mul_add, ← List.drop_drop, hd]
def tailB (N : Nat) : Nat → List Int
  | 0 => []
  | i + 1 => tailB N i ++ [rfB N (7 - (i : Int))]
theorem tailB_len (N : Nat) : ∀ i, (tailB N i).length = i
  | 0 => rfl
  | i + 1 => by simp [tailB, tailB_len N i]
theorem rfM2_eq (l : List Int) : ∀ j, rfM2 l j = l ++ (128 :: List.replicate (padN l.length) 0 ++ tailB l.length j)
  | 0 => by simp [rfM2, rfM1, tailB]
  | j + 1 => by
    show rfM2 l j ++ _ = _
    rw [rfM2_eq l j]
    simp [tailB]
theorem set_at {a b : List Int} {x y : Int} {i : Nat} (h : i = a.length) : (a ++ y :: b).set i x = a ++ x :: b := by
  subst h
  rw [List.set_append_right _ _ (Nat.le_refl _), Nat.sub_self, List.set_cons_zero]
theorem tailS_eq (N : Nat) : ∀ i, i ≤ 8 → tailS N i = (128 :: List.replicate (padN N) 0 ++ tailB N i) ++ List.replicate (71 - padN N - i) 0
  | 0, _ => by
    have hp : padN N < 64 := by unfold padN; omega
    show tail0 = _
    unfold tail0 tailB
    rw [List.append_nil, Nat.sub_zero, List.cons_append, List.replicate_append_replicate, show padN N + (71 - padN N) = 71 from by omega]
  | i + 1, hi => by
    have hp : padN N < 64 := by unfold padN; omega
    show (tailS N i).set _ _ = _
    rw [tailS_eq N i (by omega), show 71 - padN N - i = (71 - padN N - (i + 1)) + 1 from by omega, List.replicate_succ]
    rw [set_at (by simp [tailB_len]; omega)]
    have hb : IntKind.u8.wrap (Int.fdiv (IntKind.u64.wrap (IntKind.u64.wrap (N : Int) * 8)) (2 ^ min (56 - 8 * (i : Int)).toNat 64)) = rfB N (7 - (i : Int)) := by
      unfold rfB rfZ
      rw [show (IntKind.u64.wrap (8 * (7 - (i : Int)))).toNat = (56 - 8 * (i : Int)).toNat from by rw [IntKind.wrap_u64]; omega]
    rw [hb]
    simp [tailB]
theorem tailF_eq (N : Nat) : tailF N = 128 :: List.replicate (padN N) 0 ++ tailB N 8 := by
  have hp : padN N < 64 := by unfold padN; omega
  unfold tailF
  rw [tailS_eq N 8 (Nat.le_refl _)]
  have hl : (128 :: List.replicate (padN N) 0 ++ tailB N 8).length = padN N + 9 := by simp [tailB_len]
  rw [← hl]
  exact List.take_left
theorem rfB_inB (N : Nat) (i : Int) : 0 ≤ rfB N i ∧ rfB N i < 256 := by
  unfold rfB
  rw [IntKind.wrap_u8]
  omega
theorem tailB_inB (N : Nat) : ∀ i, InB (tailB N i)
  | 0 => fun x h => by cases h
  | i + 1 => fun x h => by
    rcases List.mem_append.1 h with h | h
    · exact tailB_inB N i x h
    · simp only [List.mem_singleton] at h
      subst h
      exact rfB_inB N _
theorem rfM2_inB {l : List Int} (hl : InB l) : InB (rfM2 l 8) := by
  rw [rfM2_eq]
  intro x hx
  rcases List.mem_append.1 hx with h | h
  · exact hl x h
  · rcases List.mem_append.1 h with h | h
    · rcases List.mem_cons.1 h with h | h
      · subst h; omega
      · have := (List.mem_replicate.1 h).2; subst this; omega
    · exact tailB_inB _ _ x h
def ob (s : List Int) (i : Nat) : Int := IntKind.u8.wrap (Int.fdiv (s.getD (i / 4) 0) (2 ^ (24 - 8 * (i % 4))))
theorem outS_eq (s : List Int) : ∀ i, i ≤ 32 → outS s i = (List.range i).map (ob s) ++ List.replicate (32 - i) 0
  | 0, _ => by simp [outS]
  | i + 1, hi => by
    show (outS s i).set _ _ = _
    rw [outS_eq s i (by omega), show 32 - i = (32 - (i + 1)) + 1 from by omega, List.replicate_succ, Int.toNat_natCast, set_at (by simp), List.range_succ]
    have hd : IntKind.i64.wrap (Int.tdiv (i : Int) 4) = ((i / 4 : Nat) : Int) := by
      rcases tdiv_small i with h | h
      · exact h
      · omega
    have hm : Int.tmod (i : Int) 4 = ((i % 4 : Nat) : Int) := tmod_nat i 4
    have e : IntKind.u8.wrap (Int.fdiv (s.getD (IntKind.i64.wrap (Int.tdiv (i : Int) 4)).toNat 0) (2 ^ min (24 - 8 * Int.tmod (i : Int) 4).toNat 32)) = ob s i := by
      unfold ob
      rw [hd, hm, Int.toNat_natCast, show min (24 - 8 * ((i % 4 : Nat) : Int)).toNat 32 = 24 - 8 * (i % 4) from by omega]
    rw [e]
    simp
theorem rfO_eq (s : List Int) : ∀ i, rfO s i = (List.range (4 * i)).map (ob s)
  | 0 => rfl
  | i + 1 => by
    show rfO s i ++ _ = _
    rw [rfO_eq s i, show 4 * (i + 1) = 4 * i + 1 + 1 + 1 + 1 from by omega, List.range_succ, List.range_succ, List.range_succ, List.range_succ, Int.toNat_natCast]
    have e0 : ob s (4 * i) = IntKind.u8.wrap ((s.getD i 0).fdiv (2 ^ min 24 32)) := by
      unfold ob; rw [show 4 * i / 4 = i from by omega, show 24 - 8 * (4 * i % 4) = min 24 32 from by omega]
    have e1 : ob s (4 * i + 1) = IntKind.u8.wrap ((s.getD i 0).fdiv (2 ^ min 16 32)) := by
      unfold ob; rw [show (4 * i + 1) / 4 = i from by omega, show 24 - 8 * ((4 * i + 1) % 4) = min 16 32 from by omega]
    have e2 : ob s (4 * i + 1 + 1) = IntKind.u8.wrap ((s.getD i 0).fdiv (2 ^ min 8 32)) := by
      unfold ob; rw [show (4 * i + 1 + 1) / 4 = i from by omega, show 24 - 8 * ((4 * i + 1 + 1) % 4) = min 8 32 from by omega]
    have e3 : ob s (4 * i + 1 + 1 + 1) = IntKind.u8.wrap (s.getD i 0) := by
      unfold ob; rw [show (4 * i + 1 + 1 + 1) / 4 = i from by omega, show 24 - 8 * ((4 * i + 1 + 1 + 1) % 4) = 0 from by omega]; simp
    simp only [List.map_append, List.map_cons, List.map_nil, e0, e1, e2, e3, List.append_assoc, List.cons_append, List.nil_append]
theorem out_same (s : List Int) : outS s 32 = rfO s 8 := by
  rw [outS_eq s 32 (Nat.le_refl _), rfO_eq]
  simp
theorem sum_same {all s r : List Int} (hb : InB all) (h : Took all s r) : sumF s r all.length = rfSum all := by
  obtain ⟨_, h2, _⟩ := took_write h (tailF all.length)
  have hm : all ++ tailF all.length = rfM2 all 8 := by rw [tailF_eq, rfM2_eq]
  rw [hm] at h2
  have hl := rfM2_len all 8
  unfold sumF rfSum
  rw [h2 (by omega), rfH_eat (rfM2_inB hb), out_same]
theorem of_took (ll : List (List Int)) : ∀ k, k ≤ ll.length → Took ((ll.take k).flatten) (ofSR ll k).1 (ofSR ll k).2 ∧ ((ll.take k).flatten).length = ofN ll k
  | 0, _ => ⟨by rw [List.take_zero]; exact took_none _ rfl, by simp [ofN]⟩
  | k + 1, hk => by
    obtain ⟨h1, h2⟩ := of_took ll k (by omega)
    have e : (ll.take (k + 1)).flatten = (ll.take k).flatten ++ ll.getD k [] := by
      rw [List.take_succ_eq_append_getElem hk, List.flatten_append, List.getD_eq_getElem?_getD, List.getElem?_eq_getElem hk]
      simp
    rw [e]
    refine ⟨?_, by rw [List.length_append, h2, ofN_succ hk]⟩
    have := took_write h1 (ll.getD k [])
    rw [h2] at this
    exact this
theorem of_same {ll : List (List Int)} (hb : InB ll.flatten) : ofF ll = rfSum ll.flatten := by
  obtain ⟨h1, h2⟩ := of_took ll ll.length (Nat.le_refl _)
  rw [List.take_length] at h1 h2
  unfold ofF
  rw [← h2]
  exact sum_same hb h1
end Go.Num
namespace Go.Num
open Go.Abs Go.Proofs Go.Shelf Go.RowKit
def growQ : List (BoxSt DF.τ) → List (A0 DF.τ) → Option (AV DF.τ × List (BoxSt DF.τ) × List Prop)
  | [], [.one .nil, .one (.int .i64 _ n)] => some (.v (.one (.own 0)), [dynB []], [1 ≤ n, n ≤ 140737488355328])
  | _, _ => none
theorem grow_ok : OpOK Tryd.prog DF 44 growQ := by
  intro bs xs r bs' ps h hps w σ ν vs hR hx
  unfold growQ at h
  split at h
  · rename_i n
    simp only [Option.some.injEq, Prod.mk.injEq] at h
    obtain ⟨rfl, rfl, rfl⟩ := h
    have h1 : 1 ≤ n := hps _ (by simp)
    have h2 : n ≤ 140737488355328 := hps _ (by simp)
    obtain ⟨v, us, rfl, ⟨_, hv⟩, u, us', rfl, ⟨_, hu⟩, rfl⟩ := hx
    cases hv
    cases hu
    refine ⟨_, _, enters_of Tryd.func44 (by kernel_rfl) rfl _ w, ?_⟩
    obtain ⟨k, rfl⟩ := Int.eq_ofNat_of_zero_le (show 0 ≤ n by omega)
    obtain ⟨i0, hi0, hz0, hs0, hb0⟩ : ∃ i0, Tryd.prog.info? (Tryd.growB_ren.t 25) = some i0 ∧ i0.zero = some (.int .u8 0) ∧ i0.size = 1 ∧ i0.bytes = 1 := by
      have h0 : (Tryd.prog.info? (Tryd.growB_ren.t 25)).map (fun i => (i.zero, i.size, i.bytes)) = some (some (.int .u8 0), 1, 1) := by kernel_rfl
      cases hi : Tryd.prog.info? (Tryd.growB_ren.t 25) with
      | none => rw [hi] at h0; cases h0
      | some i0 =>
        rw [hi] at h0
        simp only [Option.map_some, Option.some.injEq, Prod.mk.injEq] at h0
        exact ⟨i0, rfl, h0.1, h0.2.1, h0.2.2⟩
    refine (Any8.slices_Grow_grow Tryd.growB i0 (.int .u8 0) hi0 hz0 (by omega) none 0 0 k [] w (Nat.le_refl _) (by omega) (by rw [hb0]; omega) (by omega) (by rw [hs0]; rfl) (fun _ => rfl) (fun a h => by cases h)).mono ?_
    rintro e w' ⟨rfl, rfl⟩
    have hge := grownCap_ge w (0 + k) 0 (Tryd.growB_ren.t 25)
    have hle := grownCap_le_maxLen w (0 + k) 0 (Tryd.growB_ren.t 25) (by simp only [maxLen]; omega)
    have hA : RA DF (opMem DF w σ ν []) w σ ν (bst 0 ([] : List (BoxSt DF.τ))) ⟨#[], []⟩ := ⟨rfl, rfl, fun t av ht => by cases ht⟩
    have hl := lands_dynE hR hA (nid := 0) rfl (old := []) (row := none) (e := Tryd.growB_ren.t 25) (p := .ints .u8 []) (n := 0) (xs := []) (qs := [])
      (v := .slice (some ⟨w.heap.size, 0, none⟩) 0 (grownCap w (0 + k) 0 (Tryd.growB_ren.t 25)))
      (w' := w.drew.alloc (.cells (#[] ++ Builtin.zeroCells (Value.int .u8 0).cells (0 + k - 0) ++ Builtin.zeroCells (Value.int .u8 0).cells (grownCap w (0 + k) 0 (Tryd.growB_ren.t 25) - (0 + k))) (Tryd.growB_ren.t 25)))
      ⟨rfl, .inr ⟨w.heap.size, _, _, rfl, Nat.zero_le _, heap_alloc_new w.drew _, Nat.zero_le _, hle, Nat.le_of_eq ?_, rfl⟩⟩ rfl rfl ⟨rfl, rfl, rfl, by simp, fun j hj _ => heap_alloc_old w.drew _ hj⟩ (by simp) (fun g hg => .inl (Nat.le_of_eq (Option.some.inj hg)))
    · obtain ⟨σ', ν', q1, _, q2⟩ := hl
      refine ⟨_, rfl, σ', ν', ?_, ?_⟩
      · have hS : (bst 0 ([] : List (BoxSt DF.τ))).bx [(0, .dyn (Tryd.growB_ren.t 25) (.ints .u8 []))] = bst 0 [dynB []] := by
          refine congrArg (fun f => (⟨fun _ => none, f, 0, 0⟩ : St DF.τ)) ?_
          funext i
          cases i <;> rfl
        show RR DF _ _ _ _ (bst 0 [dynB []]) _
        rw [← hS]
        exact q1
      · exact ⟨q2.1, trivial, q2.2.2⟩
    · simp only [Array.size_append, List.size_toArray, size_zeroCells]
      show _ * 1 = 0 + _ * 1 + _ * 1
      omega
  · cases h
noncomputable def gamCc : Gam DF := [(44, .op [true, false] growQ)]
theorem gamCc_ok : GamOK Tryd.prog DF gamCc := gam_op grow_ok gam_nil
def ccA (ll : List (List Int)) (n i : Int) : Sn DF.τ where
  slots := [(0, .v (.one (.wordss .u8 ll))), slI 3 n, (9, .v (.one (.wordss .u8 ll))), slI 10 ll.length, slI 11 i]
  boxes := []
  nt := 36
def ccAx (ll : List (List Int)) (n : Int) : Sn DF.τ where
  slots := [(0, .v (.one (.wordss .u8 ll))), slI 3 n]
  boxes := []
  nt := 36
def ccB (ll : List (List Int)) (o : List Int) (i : Int) : Sn DF.τ where
  slots := [(6, .v (.one (.own 0))), (25, .v (.one (.wordss .u8 ll))), slI 26 ll.length, slI 27 i]
  boxes := [(0, .dyn 5 (.ints .u8 o))]
  nt := 36
def ccBx (o : List Int) : Sn DF.τ where
  slots := [(6, .v (.one (.own 0)))]
  boxes := [(0, .dyn 5 (.ints .u8 o))]
  nt := 36
theorem cc_a (ll : List (List Int)) (n n' : Int) (i : Nat)
 (h1 : ((decide (((i : Nat) : Int) < (((List.length ll) : Nat) : Int))) = true))
 (h2 : ((0 : Int) ≤ ((i : Nat) : Int)))
 (h3 : (((i : Nat) : Int) < (((List.length ll) : Nat) : Int)))
 (h4 : (InI64 (n + (((List.length (List.getD ll (Int.toNat ((i : Nat) : Int)) ([] : List (Int)))) : Nat) : Int))))
 (h5 : ((decide ((n + (((List.length (List.getD ll (Int.toNat ((i : Nat) : Int)) ([] : List (Int)))) : Nat) : Int)) < (0 : Int))) = false))
 (h6 : (InI64 (((i : Nat) : Int) + (1 : Int))))
 (h7 : ((n + (((List.length (List.getD ll (Int.toNat ((i : Nat) : Int)) ([] : List (Int)))) : Nat) : Int)) = n')) :
 ∃ ps, stepPs Tryd.prog DF gamCc 100 (bodyN Tryd.f28 0) 100 (ccA ll n i).st [.is true, .is false] .normal (ccA ll n' ((i : Int) + 1)) = some ps ∧ AllQ ps := ⟨_, by kernel_rfl, qc h1 (qc h2 (qc h3 (qc h4 (qc h5 (qc h6 (qc (Eq.refl ll) (qc h7 (qc (Eq.refl ll) (qc (Eq.refl ((((List.length ll) : Nat) : Int))) (qc (Eq.refl ((((i : Nat) : Int) + (1 : Int)))) (qn)))))))))))⟩
theorem cc_ax (ll : List (List Int)) (n : Int) (i : Nat)
 (h1 : ((decide (((i : Nat) : Int) < (((List.length ll) : Nat) : Int))) = false)) :
 ∃ ps, stepPs Tryd.prog DF gamCc 100 (bodyN Tryd.f28 0) 100 (ccA ll n i).st [.is false] (.exit 0) (ccAx ll n) = some ps ∧ AllQ ps := ⟨_, by kernel_rfl, qc h1 (qc (Eq.refl ll) (qc (Eq.refl n) (qn)))⟩
theorem cc_b (ll : List (List Int)) (o o' : List Int) (i : Nat)
 (h1 : ((decide (((i : Nat) : Int) < (((List.length ll) : Nat) : Int))) = true))
 (h2 : ((0 : Int) ≤ ((i : Nat) : Int)))
 (h3 : (((i : Nat) : Int) < (((List.length ll) : Nat) : Int)))
 (h4 : (((List.length o) + (List.length (List.getD ll (Int.toNat ((i : Nat) : Int)) ([] : List (Int))))) ≤ (9223372036854775807 : Nat)))
 (h5 : ((((List.length o) + (List.length (List.getD ll (Int.toNat ((i : Nat) : Int)) ([] : List (Int))))) * (1 : Nat)) ≤ (140737488355328 : Nat)))
 (h6 : (InI64 (((i : Nat) : Int) + (1 : Int))))
 (h7 : ((o ++ (List.getD ll (Int.toNat ((i : Nat) : Int)) ([] : List (Int)))) = o')) :
 ∃ ps, stepPs Tryd.prog DF gamCc 100 (bodyN Tryd.f28 1) 100 (ccB ll o i).st [.is true] .normal (ccB ll o' ((i : Int) + 1)) = some ps ∧ AllQ ps := ⟨_, by kernel_rfl, qc h1 (qc h2 (qc h3 (qc h4 (qc h5 (qc h6 (qc (Eq.refl ll) (qc (Eq.refl ((((List.length ll) : Nat) : Int))) (qc (Eq.refl ((((i : Nat) : Int) + (1 : Int)))) (qc h7 (qn))))))))))⟩
theorem cc_bx (ll : List (List Int)) (o : List Int) (i : Nat)
 (h1 : ((decide (((i : Nat) : Int) < (((List.length ll) : Nat) : Int))) = false)) :
 ∃ ps, stepPs Tryd.prog DF gamCc 100 (bodyN Tryd.f28 1) 100 (ccB ll o i).st [.is false] (.exit 2) (ccBx o) = some ps ∧ AllQ ps := ⟨_, by kernel_rfl, qc h1 (qc (Eq.refl o) (qn))⟩
theorem cc_run (ll : List (List Int)) (n : Int) (o : List Int)
 (h1 : SumOK Tryd.prog DF (bodyN Tryd.f28 0) (loopL DF (ccA ll 0 (0 : Nat)) (.exit 0) (ccAx ll n)))
 (h2 : ((1 : Int) ≤ n))
 (h3 : (n ≤ (140737488355328 : Int)))
 (h4 : SumOK Tryd.prog DF (bodyN Tryd.f28 1) (loopL DF (ccB ll [] (0 : Nat)) (.exit 2) (ccBx o))) :
 ∃ ps, runF Tryd.prog DF gamCc 100 Tryd.f28 [.one (.wordss .u8 ll)] [.loop (loopL DF (ccA ll 0 (0 : Nat)) (.exit 0) (ccAx ll n)), .loop (loopL DF (ccB ll [] (0 : Nat)) (.exit 2) (ccBx o))] = some ((AV.v (A0.one (Part.fresh (0 : Nat) (5 : TypeId) Go.IntKind.u8 o))), ps) ∧ AllQ ps := ⟨_, by kernel_rfl, qc h1 (qc (Eq.refl ll) (qc (Eq.refl ((0 : Int))) (qc (Eq.refl ll) (qc (Eq.refl ((((List.length ll) : Nat) : Int))) (qc (show ((0 : Int) = (((0 : Nat) : Nat) : Int)) from by decide) (qc h2 (qc h3 (qc h4 (qc (Eq.refl ll) (qc (Eq.refl ((((List.length ll) : Nat) : Int))) (qc (show ((0 : Int) = (((0 : Nat) : Nat) : Int)) from by decide) (qc (Eq.refl (([] : List (Int)))) (qn)))))))))))))⟩
theorem cc_a_loop (ll : List (List Int)) (h : ofN ll ll.length ≤ 4611686018427387904) (hl : ll.length ≤ 9223372036854775807) : SumOK Tryd.prog DF (bodyN Tryd.f28 0) (loopL DF (ccA ll 0 (0 : Nat)) (.exit 0) (ccAx ll (ofN ll ll.length))) := by
  have hs := sum_loop gamCc_ok mixed (c := bodyN Tryd.f28 0) (fun k => ccA ll (ofN ll k) k) ll.length (e := .exit 0) (s := ccAx ll (ofN ll ll.length)) rfl (fun k hk => ?_) ?_
  · exact hs
  · have h1 := ofN_succ hk
    have h2 := ofN_le (ll := ll) (k := k + 1) (by omega)
    refine ⟨_, _, _, cc_a ll (ofN ll k) (ofN ll (k + 1)) k (decide_eq_true (by omega)) (by omega) (by omega) ?_ ?_ ⟨by omega, by omega⟩ ?_⟩
    all_goals rw [Int.toNat_natCast]
    · exact ⟨by omega, by omega⟩
    · exact decide_eq_false (by omega)
    · omega
  · exact ⟨_, _, _, cc_ax ll _ ll.length (decide_eq_false (by omega))⟩
theorem ofN_flat (ll : List (List Int)) (k : Nat) : ofN ll k = (ll.take k).flatten.length := by
  rw [List.length_flatten]; rfl
theorem cc_b_loop (ll : List (List Int)) (h : ofN ll ll.length ≤ 140737488355328) (hl : ll.length ≤ 9223372036854775807) : SumOK Tryd.prog DF (bodyN Tryd.f28 1) (loopL DF (ccB ll [] (0 : Nat)) (.exit 2) (ccBx ll.flatten)) := by
  have hs := sum_loop gamCc_ok mixed (c := bodyN Tryd.f28 1) (fun k => ccB ll (ll.take k).flatten k) ll.length (e := .exit 2) (s := ccBx ll.flatten) rfl (fun k hk => ?_) ?_
  · exact hs
  · have h1 := ofN_succ hk
    have h2 := ofN_le (ll := ll) (k := k + 1) (by omega)
    have h3 := ofN_flat ll k
    refine ⟨_, _, _, cc_b ll (ll.take k).flatten (ll.take (k + 1)).flatten k (decide_eq_true (by omega)) (by omega) (by omega) ?_ ?_ ⟨by omega, by omega⟩ ?_⟩
    all_goals rw [Int.toNat_natCast]
    · omega
    · omega
    · rw [List.take_succ_eq_append_getElem hk, List.flatten_append, List.getD_eq_getElem?_getD, List.getElem?_eq_getElem hk]
      simp
  · have := cc_bx ll (ll.take ll.length).flatten ll.length (decide_eq_false (by omega))
    rw [List.take_length] at this
    rw [List.take_length]
    exact ⟨_, _, _, this⟩
def concD : FnD DF
  | [.one (.wordss .u8 ll)] => some (.v (.one (.fresh 0 5 .u8 ll.flatten)), [1 ≤ ofN ll ll.length, ofN ll ll.length ≤ 140737488355328, ll.length ≤ 9223372036854775807])
  | _ => none
theorem conc_ok : FnOK Tryd.prog DF 28 concD := by
  refine fnOK_of gamCc_ok mixed Tryd.func28 (enters_of Tryd.func28 (by kernel_rfl) rfl) ?_
  intro xs r ps h hps
  unfold concD at h
  split at h
  · rename_i ll
    simp only [Option.some.injEq, Prod.mk.injEq] at h
    obtain ⟨rfl, rfl⟩ := h
    have h0 : 1 ≤ ofN ll ll.length := hps _ (by simp)
    have h1 : ofN ll ll.length ≤ 140737488355328 := hps _ (by simp)
    have h2 : ll.length ≤ 9223372036854775807 := hps _ (by simp)
    obtain ⟨qs, q1, q2⟩ := cc_run ll (ofN ll ll.length) ll.flatten (cc_a_loop ll (by omega) h2) (by omega) (by omega) (cc_b_loop ll h1 h2)
    exact ⟨_, _, _, _, _, fun w vs hx => hx, q1, q2, fun E v hv => hv⟩
  · cases h
end Go.Num
namespace Go.Num
open Go.Abs Go.Proofs Go.Shelf Go.RowKit
noncomputable def gLd : Gam DF := [(freezeId, .fn (freezeD DF [14])), (16, .rd [true, false] readR), (26, .fn ofD)]
theorem gLd_ok : GamOK Tryd.prog DF gLd := gam_freeze (gam_rd read_ok (gam_cons of_ok gam_nil))
def ldN (e : Int) : AV DF.τ := .tup [.one .nil, .one (.bool true false), .one (.int .i64 false e)]
def ldV (l : List Int) : AV DF.τ := .tup [.one (.pw .u8 l), .one (.bool true true), .one (.int .i64 true 0)]
theorem ld_gone (s : ByteArray) (ro st fu e : Int) (dn : Bool) (es : List (Rec × Ob))
 (h1 : (Okd (ro, (st, (fu, (dn, es))))))
 (h2 : ((ByteArray.size s) ≤ (9223372036854775807 : Nat)))
 (h3 : ((((readM (ro, (st, (fu, (dn, es)))) s)).1 == (41 : Int)) = true))
 (h4 : ((0 : Int) = e)) :
 ∃ ps, runO Tryd.prog DF gLd 100 Tryd.f12 (dkB ro st fu dn es, [.one (.ref 0 0), .one (.str s)]) [.is true] (ldN e) (dkB ro st fu dn es) = some ps ∧ AllQ ps := ⟨_, by kernel_rfl, qc (Eq.refl s) (qc (Eq.refl ro) (qc (Eq.refl st) (qc (Eq.refl fu) (qc (Eq.refl dn) (qc (Eq.refl es) (qc h1 (qc h2 (qc h3 (qc h4 (qc (Eq.refl ro) (qc (Eq.refl st) (qc (Eq.refl fu) (qc (Eq.refl dn) (qc (Eq.refl es) (qn)))))))))))))))⟩
theorem ld_err (s : ByteArray) (ro st fu e : Int) (dn : Bool) (es : List (Rec × Ob))
 (h1 : (Okd (ro, (st, (fu, (dn, es))))))
 (h2 : ((ByteArray.size s) ≤ (9223372036854775807 : Nat)))
 (h3 : ((((readM (ro, (st, (fu, (dn, es)))) s)).1 == (41 : Int)) = false))
 (h4 : ((((readM (ro, (st, (fu, (dn, es)))) s)).1 != (0 : Int)) = true))
 (h5 : (((readM (ro, (st, (fu, (dn, es)))) s)).1 = e)) :
 ∃ ps, runO Tryd.prog DF gLd 100 Tryd.f12 (dkB ro st fu dn es, [.one (.ref 0 0), .one (.str s)]) [.is false, .is true] (ldN e) (dkB ro st fu dn es) = some ps ∧ AllQ ps := ⟨_, by kernel_rfl, qc (Eq.refl s) (qc (Eq.refl ro) (qc (Eq.refl st) (qc (Eq.refl fu) (qc (Eq.refl dn) (qc (Eq.refl es) (qc h1 (qc h2 (qc h3 (qc h4 (qc h5 (qc (Eq.refl ro) (qc (Eq.refl st) (qc (Eq.refl fu) (qc (Eq.refl dn) (qc (Eq.refl es) (qn))))))))))))))))⟩
theorem ld_short (s : ByteArray) (ro st fu e : Int) (dn : Bool) (es : List (Rec × Ob))
 (h1 : (Okd (ro, (st, (fu, (dn, es))))))
 (h2 : ((ByteArray.size s) ≤ (9223372036854775807 : Nat)))
 (h3 : ((((readM (ro, (st, (fu, (dn, es)))) s)).1 == (41 : Int)) = false))
 (h4 : ((((readM (ro, (st, (fu, (dn, es)))) s)).1 != (0 : Int)) = false))
 (h5 : ((decide ((((List.length ((readM (ro, (st, (fu, (dn, es)))) s)).2) : Nat) : Int) < (32 : Int))) = true))
 (h6 : ((44 : Int) = e)) :
 ∃ ps, runO Tryd.prog DF gLd 100 Tryd.f12 (dkB ro st fu dn es, [.one (.ref 0 0), .one (.str s)]) [.is false, .is false, .is true] (ldN e) (dkB ro st fu dn es) = some ps ∧ AllQ ps := ⟨_, by kernel_rfl, qc (Eq.refl s) (qc (Eq.refl ro) (qc (Eq.refl st) (qc (Eq.refl fu) (qc (Eq.refl dn) (qc (Eq.refl es) (qc h1 (qc h2 (qc h3 (qc h4 (qc h5 (qc h6 (qc (Eq.refl ro) (qc (Eq.refl st) (qc (Eq.refl fu) (qc (Eq.refl dn) (qc (Eq.refl es) (qn)))))))))))))))))⟩
theorem ld_sum (s : ByteArray) (ro st fu e : Int) (dn : Bool) (es : List (Rec × Ob))
 (h1 : (Okd (ro, (st, (fu, (dn, es))))))
 (h2 : ((ByteArray.size s) ≤ (9223372036854775807 : Nat)))
 (h3 : ((((readM (ro, (st, (fu, (dn, es)))) s)).1 == (41 : Int)) = false))
 (h4 : ((((readM (ro, (st, (fu, (dn, es)))) s)).1 != (0 : Int)) = false))
 (h5 : ((decide ((((List.length ((readM (ro, (st, (fu, (dn, es)))) s)).2) : Nat) : Int) < (32 : Int))) = false))
 (h6 : ((32 : Int) ≤ (((List.length ((readM (ro, (st, (fu, (dn, es)))) s)).2) : Nat) : Int)))
 (h7 : ((((List.length ((readM (ro, (st, (fu, (dn, es)))) s)).2) : Nat) : Int) ≤ (((List.length ((readM (ro, (st, (fu, (dn, es)))) s)).2) : Nat) : Int)))
 (h8 : ((List.foldr (fun x1 x2 => x1 + x2) (0 : Nat) ([(List.length (List.drop (32 : Nat) (List.take (Int.toNat (((List.length ((readM (ro, (st, (fu, (dn, es)))) s)).2) : Nat) : Int)) ((readM (ro, (st, (fu, (dn, es)))) s)).2)))] : List Nat)) ≤ (4611686018427387904 : Nat)))
 (h9 : ((1 : Nat) ≤ (9223372036854775807 : Nat)))
 (h10 : ((32 : Nat) ≤ (List.length ((readM (ro, (st, (fu, (dn, es)))) s)).2)))
 (h11 : ((!((decide ((ofF [(List.drop (32 : Nat) (List.take (Int.toNat (((List.length ((readM (ro, (st, (fu, (dn, es)))) s)).2) : Nat) : Int)) ((readM (ro, (st, (fu, (dn, es)))) s)).2))]) = (List.take (32 : Nat) ((readM (ro, (st, (fu, (dn, es)))) s)).2))) && true)) = true))
 (h12 : (EqT Tryd.prog (56 : Nat)))
 (h13 : ((44 : Int) = e)) :
 ∃ ps, runO Tryd.prog DF gLd 100 Tryd.f12 (dkB ro st fu dn es, [.one (.ref 0 0), .one (.str s)]) [.is false, .is false, .is false, .is true] (ldN e) (dkB ro st fu dn es) = some ps ∧ AllQ ps := ⟨_, by kernel_rfl, qc (Eq.refl s) (qc (Eq.refl ro) (qc (Eq.refl st) (qc (Eq.refl fu) (qc (Eq.refl dn) (qc (Eq.refl es) (qc h1 (qc h2 (qc h3 (qc h4 (qc h5 (qc (show ((0 : Int) ≤ (32 : Int)) from by decide) (qc h6 (qc h7 (qc h8 (qc h9 (qc h10 (qc h11 (qc h12 (qc h13 (qc (Eq.refl ro) (qc (Eq.refl st) (qc (Eq.refl fu) (qc (Eq.refl dn) (qc (Eq.refl es) (qn)))))))))))))))))))))))))⟩
theorem ld_ok (s : ByteArray) (ro st fu : Int) (dn : Bool) (es : List (Rec × Ob)) (l : List Int)
 (h1 : (Okd (ro, (st, (fu, (dn, es))))))
 (h2 : ((ByteArray.size s) ≤ (9223372036854775807 : Nat)))
 (h3 : ((((readM (ro, (st, (fu, (dn, es)))) s)).1 == (41 : Int)) = false))
 (h4 : ((((readM (ro, (st, (fu, (dn, es)))) s)).1 != (0 : Int)) = false))
 (h5 : ((decide ((((List.length ((readM (ro, (st, (fu, (dn, es)))) s)).2) : Nat) : Int) < (32 : Int))) = false))
 (h6 : ((32 : Int) ≤ (((List.length ((readM (ro, (st, (fu, (dn, es)))) s)).2) : Nat) : Int)))
 (h7 : ((((List.length ((readM (ro, (st, (fu, (dn, es)))) s)).2) : Nat) : Int) ≤ (((List.length ((readM (ro, (st, (fu, (dn, es)))) s)).2) : Nat) : Int)))
 (h8 : ((List.foldr (fun x1 x2 => x1 + x2) (0 : Nat) ([(List.length (List.drop (32 : Nat) (List.take (Int.toNat (((List.length ((readM (ro, (st, (fu, (dn, es)))) s)).2) : Nat) : Int)) ((readM (ro, (st, (fu, (dn, es)))) s)).2)))] : List Nat)) ≤ (4611686018427387904 : Nat)))
 (h9 : ((1 : Nat) ≤ (9223372036854775807 : Nat)))
 (h10 : ((32 : Nat) ≤ (List.length ((readM (ro, (st, (fu, (dn, es)))) s)).2)))
 (h11 : ((!((decide ((ofF [(List.drop (32 : Nat) (List.take (Int.toNat (((List.length ((readM (ro, (st, (fu, (dn, es)))) s)).2) : Nat) : Int)) ((readM (ro, (st, (fu, (dn, es)))) s)).2))]) = (List.take (32 : Nat) ((readM (ro, (st, (fu, (dn, es)))) s)).2))) && true)) = false))
 (h12 : (EqT Tryd.prog (56 : Nat)))
 (h13 : ((List.drop (32 : Nat) (List.take (Int.toNat (((List.length ((readM (ro, (st, (fu, (dn, es)))) s)).2) : Nat) : Int)) ((readM (ro, (st, (fu, (dn, es)))) s)).2)) = l)) :
 ∃ ps, runO Tryd.prog DF gLd 100 Tryd.f12 (dkB ro st fu dn es, [.one (.ref 0 0), .one (.str s)]) [.is false, .is false, .is false, .is false] (ldV l) (dkB ro st fu dn es) = some ps ∧ AllQ ps := ⟨_, by kernel_rfl, qc (Eq.refl s) (qc (Eq.refl ro) (qc (Eq.refl st) (qc (Eq.refl fu) (qc (Eq.refl dn) (qc (Eq.refl es) (qc h1 (qc h2 (qc h3 (qc h4 (qc h5 (qc (show ((0 : Int) ≤ (32 : Int)) from by decide) (qc h6 (qc h7 (qc h8 (qc h9 (qc h10 (qc h11 (qc h12 (qc h13 (qc (Eq.refl ro) (qc (Eq.refl st) (qc (Eq.refl fu) (qc (Eq.refl dn) (qc (Eq.refl es) (qn)))))))))))))))))))))))))⟩
def loadM (d : DkT) (s : ByteArray) : Int × List Int :=
  if (readM d s).1 = 41 then (0, [])
  else if (readM d s).1 ≠ 0 then ((readM d s).1, [])
  else if (readM d s).2.length < 32 then (44, [])
  else if ofF [(readM d s).2.drop 32] ≠ (readM d s).2.take 32 then (44, [])
  else (0, (readM d s).2.drop 32)
def loadB (d : DkT) (s : ByteArray) : Prop := (readM d s).1 = 0 ∧ 32 ≤ (readM d s).2.length ∧ ofF [(readM d s).2.drop 32] = (readM d s).2.take 32
theorem read_len {d : DkT} (h : Okd d) (s : ByteArray) : (readM d s).2.length ≤ 140737488355328 := by
  unfold readM
  split
  · exact Nat.zero_le _
  · exact (h.ob [Fd.s s]).2.2
noncomputable def loadNoR := mkF DF Tryd.f12.ntmps reRd fiPre (fun t => some (ldN (loadM t.1 t.2).1, [], [Okd t.1, t.2.size ≤ 9223372036854775807, ¬ loadB t.1 t.2]))
noncomputable def loadOkR := mkF DF Tryd.f12.ntmps reRd fiPre (fun t => some (ldV (loadM t.1 t.2).2, [], [Okd t.1, t.2.size ≤ 9223372036854775807, loadB t.1 t.2]))
theorem eqSum : EqT Tryd.prog 56 := eqT_of (n := 32) (by kernel_rfl) (by kernel_rfl) (by kernel_rfl) (by kernel_rfl)
theorem loadNo_ok : OpOK Tryd.prog DF 12 (withNew loadNoR) := by
  refine opOK_mkR mixed Tryd.func12 (enters_of Tryd.func12 (by kernel_rfl) rfl) (fun _ _ _ => reRd_is) ?_
  rintro ⟨⟨ro, st, fu, dn, es⟩, s⟩ r' ns ps h hps
  simp only [Option.some.injEq, Prod.mk.injEq] at h
  obtain ⟨rfl, rfl, rfl⟩ := h
  have hd : Okd (ro, st, fu, dn, es) := hps (Okd _) (by simp)
  have hs : s.size ≤ 9223372036854775807 := hps (s.size ≤ 9223372036854775807) (by simp)
  have hb : ¬ loadB (ro, st, fu, dn, es) s := hps (¬ loadB _ _) (by simp)
  have hl := read_len hd s
  unfold loadM
  by_cases c1 : (readM (ro, st, fu, dn, es) s).1 = 41
  · rw [if_pos c1]
    exact ⟨_, _, _, gLd_ok, ld_gone s ro st fu _ dn es hd hs (beq_iff_eq.2 c1) rfl⟩
  rw [if_neg c1]
  by_cases c2 : (readM (ro, st, fu, dn, es) s).1 ≠ 0
  · rw [if_pos c2]
    exact ⟨_, _, _, gLd_ok, ld_err s ro st fu _ dn es hd hs (beq_false_of_ne c1) (bne_iff_ne.2 c2) rfl⟩
  rw [if_neg c2]
  have c2' : (readM (ro, st, fu, dn, es) s).1 = 0 := Decidable.byContradiction c2
  by_cases c3 : (readM (ro, st, fu, dn, es) s).2.length < 32
  · rw [if_pos c3]
    exact ⟨_, _, _, gLd_ok, ld_short s ro st fu _ dn es hd hs (beq_false_of_ne c1) (by rw [c2']; rfl) (decide_eq_true (by omega)) rfl⟩
  rw [if_neg c3]
  have c4 : ofF [(readM (ro, st, fu, dn, es) s).2.drop 32] ≠ (readM (ro, st, fu, dn, es) s).2.take 32 := fun e => hb ⟨c2', by omega, e⟩
  rw [if_pos c4]
  refine ⟨_, _, _, gLd_ok, ld_sum s ro st fu _ dn es hd hs (beq_false_of_ne c1) (by rw [c2']; rfl) (decide_eq_false (by omega)) (by omega) (Int.le_refl _) ?_ (by decide) (by omega) ?_ eqSum rfl⟩
  · simp; omega
  · rw [Int.toNat_natCast, List.take_length]
    simp [c4]
theorem loadOk_ok : OpOK Tryd.prog DF 12 (withNew loadOkR) := by
  refine opOK_mkR mixed Tryd.func12 (enters_of Tryd.func12 (by kernel_rfl) rfl) (fun _ _ _ => reRd_is) ?_
  rintro ⟨⟨ro, st, fu, dn, es⟩, s⟩ r' ns ps h hps
  simp only [Option.some.injEq, Prod.mk.injEq] at h
  obtain ⟨rfl, rfl, rfl⟩ := h
  have hd : Okd (ro, st, fu, dn, es) := hps (Okd _) (by simp)
  have hs : s.size ≤ 9223372036854775807 := hps (s.size ≤ 9223372036854775807) (by simp)
  have hb : loadB (ro, st, fu, dn, es) s := hps (loadB _ _) (by simp)
  have hl := read_len hd s
  obtain ⟨b1, b2, b3⟩ := hb
  have hm : (loadM (ro, st, fu, dn, es) s).2 = (readM (ro, st, fu, dn, es) s).2.drop 32 := by
    unfold loadM
    rw [if_neg (by rw [b1]; decide), if_neg (by rw [b1]; decide), if_neg (by omega), if_neg (fun h => h b3)]
  rw [hm]
  refine ⟨_, _, _, gLd_ok, ld_ok s ro st fu dn es _ hd hs (by rw [b1]; rfl) (by rw [b1]; rfl) (decide_eq_false (by omega)) (by omega) (Int.le_refl _) ?_ (by decide) b2 ?_ eqSum ?_⟩
  · simp; omega
  · rw [Int.toNat_natCast, List.take_length]
    simp [b3]
  · rw [Int.toNat_natCast, List.take_length]
end Go.Num
namespace Go.Num
open Go.Abs Go.Proofs Go.Shelf Go.RowKit
def dkBo (o : Nat) (d : DkT) : List (BoxSt DF.τ) := [.fixed 52 [.int .i64 false d.1, .mapr (o + 1), .int .i64 false d.2.1, .int .i64 false d.2.2.1, .bool false d.2.2.2.1], .fam 0 d.2.2.2.2 none]
def dkRdo : List (BoxSt DF.τ) → Option DkT
  | [.fixed _ [.int _ _ ro, .mapr _, .int _ _ st, .int _ _ fu, .bool _ dn], .fam _ es none] => some (ro, st, fu, dn, es)
  | _ => none
def pB (o : Nat) : BoxSt DF.τ := .fixed 24 [.ref o 0]
def tB (s : ByteArray) : BoxSt DF.τ := .fixed 9 [.str s]
def wB (l : List Int) : BoxSt DF.τ := .fixed 22 [.pw .u8 l]
noncomputable def gS1 : Gam DF := [(24, .op [true, false] dropQ), (30, .op [true, false] syncQ), (32, .op [true, false, false] moveQ)]
noncomputable def gS2 : Gam DF := [(freezeId, .fn (freezeD DF [10])), (26, .fn ofD), (28, .fn concD), (27, .op [true, false, false] appendQ)]
theorem s1_other (f : ByteArray) (ro st fu e : Int) (dn : Bool) (es : List (Rec × Ob))
 (h1 : (DkOK (ro, (st, (fu, (dn, es))))))
 (h2 : ((ByteArray.size f) ≤ (9223372036854775807 : Nat)))
 (h3 : ((((dropM (ro, (st, (fu, (dn, es)))) f)).1 != (41 : Int)) = true))
 (h4 : (((dropM (ro, (st, (fu, (dn, es)))) f)).1 = e)) :
 ∃ ps, runO Tryd.prog DF gS1 100 Tryd.f23 ([pB 2, tB f] ++ dkBo 2 (ro, st, fu, dn, es), [.one (.ref 0 0), .one (.ref 1 0)]) [.is true] (eV e) ([pB 2, tB f] ++ dkBo 2 (dropM (ro, st, fu, dn, es) f).2) = some ps ∧ AllQ ps := ⟨_, by kernel_rfl, qc (Eq.refl f) (qc (Eq.refl ro) (qc (Eq.refl st) (qc (Eq.refl fu) (qc (Eq.refl dn) (qc (Eq.refl es) (qc h1 (qc h2 (qc h3 (qc h4 (qc (Eq.refl f) (qc (Eq.refl ((((dropM (ro, (st, (fu, (dn, es)))) f)).2).1)) (qc (Eq.refl (((((dropM (ro, (st, (fu, (dn, es)))) f)).2).2).1)) (qc (Eq.refl ((((((dropM (ro, (st, (fu, (dn, es)))) f)).2).2).2).1)) (qc (Eq.refl (((((((dropM (ro, (st, (fu, (dn, es)))) f)).2).2).2).2).1)) (qc (Eq.refl (((((((dropM (ro, (st, (fu, (dn, es)))) f)).2).2).2).2).2)) (qn))))))))))))))))⟩
theorem s1_gone (f : ByteArray) (ro st fu e : Int) (dn : Bool) (es : List (Rec × Ob))
 (h1 : (DkOK (ro, (st, (fu, (dn, es))))))
 (h2 : ((ByteArray.size f) ≤ (9223372036854775807 : Nat)))
 (h3 : ((((dropM (ro, (st, (fu, (dn, es)))) f)).1 != (41 : Int)) = false))
 (h4 : ((0 : Int) = e)) :
 ∃ ps, runO Tryd.prog DF gS1 100 Tryd.f23 ([pB 2, tB f] ++ dkBo 2 (ro, st, fu, dn, es), [.one (.ref 0 0), .one (.ref 1 0)]) [.is false] (eV e) ([pB 2, tB f] ++ dkBo 2 (dropM (ro, st, fu, dn, es) f).2) = some ps ∧ AllQ ps := ⟨_, by kernel_rfl, qc (Eq.refl f) (qc (Eq.refl ro) (qc (Eq.refl st) (qc (Eq.refl fu) (qc (Eq.refl dn) (qc (Eq.refl es) (qc h1 (qc h2 (qc h3 (qc h4 (qc (Eq.refl f) (qc (Eq.refl ((((dropM (ro, (st, (fu, (dn, es)))) f)).2).1)) (qc (Eq.refl (((((dropM (ro, (st, (fu, (dn, es)))) f)).2).2).1)) (qc (Eq.refl ((((((dropM (ro, (st, (fu, (dn, es)))) f)).2).2).2).1)) (qc (Eq.refl (((((((dropM (ro, (st, (fu, (dn, es)))) f)).2).2).2).2).1)) (qc (Eq.refl (((((((dropM (ro, (st, (fu, (dn, es)))) f)).2).2).2).2).2)) (qn))))))))))))))))⟩
theorem s2_run (f : ByteArray) (l : List Int) (ro st fu e : Int) (dn : Bool) (es es' : List (Rec × Ob))
 (h1 : ((List.foldr (fun x1 x2 => x1 + x2) (0 : Nat) ([(List.length l)] : List Nat)) ≤ (4611686018427387904 : Nat)))
 (h2 : ((1 : Nat) ≤ (9223372036854775807 : Nat)))
 (h3 : ((1 : Nat) ≤ (List.foldr (fun x1 x2 => x1 + x2) (0 : Nat) ([(List.length (ofF [l])), (List.length l)] : List Nat))))
 (h4 : ((List.foldr (fun x1 x2 => x1 + x2) (0 : Nat) ([(List.length (ofF [l])), (List.length l)] : List Nat)) ≤ (140737488355328 : Nat)))
 (h5 : ((2 : Nat) ≤ (9223372036854775807 : Nat)))
 (h6 : (DkOK (ro, (st, (fu, (dn, es))))))
 (h7 : ((ByteArray.size f) ≤ (9223372036854775807 : Nat)))
 (h8 : ((List.length (List.append (ofF [l]) (List.append l ([] : List (Int))))) ≤ (4611686018427387904 : Nat)))
 (h9 : (((appendM (ro, (st, (fu, (dn, es)))) f (List.append (ofF [l]) (List.append l ([] : List (Int)))))).1 = e))
 (h10 : ((((appendM (ro, (st, (fu, (dn, es)))) f (List.append (ofF [l]) (List.append l ([] : List (Int)))))).2).1 = (((appendM (ro, (st, (fu, (dn, es)))) f ((ofF [l]) ++ (l ++ ([] : List (Int)))))).2).1))
 (h11 : (((((appendM (ro, (st, (fu, (dn, es)))) f (List.append (ofF [l]) (List.append l ([] : List (Int)))))).2).2).1 = ((((appendM (ro, (st, (fu, (dn, es)))) f ((ofF [l]) ++ (l ++ ([] : List (Int)))))).2).2).1))
 (h12 : ((((((appendM (ro, (st, (fu, (dn, es)))) f (List.append (ofF [l]) (List.append l ([] : List (Int)))))).2).2).2).1 = (((((appendM (ro, (st, (fu, (dn, es)))) f ((ofF [l]) ++ (l ++ ([] : List (Int)))))).2).2).2).1))
 (h13 : (((((((appendM (ro, (st, (fu, (dn, es)))) f (List.append (ofF [l]) (List.append l ([] : List (Int)))))).2).2).2).2).1 = ((((((appendM (ro, (st, (fu, (dn, es)))) f ((ofF [l]) ++ (l ++ ([] : List (Int)))))).2).2).2).2).1))
 (h14 : (((((((appendM (ro, (st, (fu, (dn, es)))) f (List.append (ofF [l]) (List.append l ([] : List (Int)))))).2).2).2).2).2 = ((((((appendM (ro, (st, (fu, (dn, es)))) f ((ofF [l]) ++ (l ++ ([] : List (Int)))))).2).2).2).2).2)) :
 ∃ ps, runO Tryd.prog DF gS2 100 Tryd.f25 ([wB l, pB 3, tB f] ++ dkBo 3 (ro, st, fu, dn, es), [.one (.ref 0 0), .one (.ref 1 0), .one (.ref 2 0)]) [] (eV e) ([wB l, pB 3, tB f] ++ dkBo 3 (appendM (ro, st, fu, dn, es) f (ofF [l] ++ (l ++ []))).2) = some ps ∧ AllQ ps := ⟨_, by kernel_rfl, qc h1 (qc h2 (qc h3 (qc h4 (qc h5 (qc (Eq.refl f) (qc (Eq.refl ((List.append (ofF [l]) (List.append l ([] : List (Int)))))) (qc (Eq.refl ro) (qc (Eq.refl st) (qc (Eq.refl fu) (qc (Eq.refl dn) (qc (Eq.refl es) (qc h6 (qc h7 (qc h8 (qc h9 (qc (Eq.refl l) (qc (Eq.refl f) (qc h10 (qc h11 (qc h12 (qc h13 (qc h14 (qn)))))))))))))))))))))))⟩
theorem s3_run (f : ByteArray) (ro st fu e : Int) (dn : Bool) (es : List (Rec × Ob))
 (h1 : (DkOK (ro, (st, (fu, (dn, es))))))
 (h2 : ((ByteArray.size f) ≤ (9223372036854775807 : Nat)))
 (h3 : (((syncM (ro, (st, (fu, (dn, es)))) f)).1 = e)) :
 ∃ ps, runO Tryd.prog DF gS1 100 Tryd.f29 ([pB 2, tB f] ++ dkBo 2 (ro, st, fu, dn, es), [.one (.ref 0 0), .one (.ref 1 0)]) [] (eV e) ([pB 2, tB f] ++ dkBo 2 (syncM (ro, st, fu, dn, es) f).2) = some ps ∧ AllQ ps := ⟨_, by kernel_rfl, qc (Eq.refl f) (qc (Eq.refl ro) (qc (Eq.refl st) (qc (Eq.refl fu) (qc (Eq.refl dn) (qc (Eq.refl es) (qc h1 (qc h2 (qc h3 (qc (Eq.refl f) (qc (Eq.refl ((((syncM (ro, (st, (fu, (dn, es)))) f)).2).1)) (qc (Eq.refl (((((syncM (ro, (st, (fu, (dn, es)))) f)).2).2).1)) (qc (Eq.refl ((((((syncM (ro, (st, (fu, (dn, es)))) f)).2).2).2).1)) (qc (Eq.refl (((((((syncM (ro, (st, (fu, (dn, es)))) f)).2).2).2).2).1)) (qc (Eq.refl (((((((syncM (ro, (st, (fu, (dn, es)))) f)).2).2).2).2).2)) (qn)))))))))))))))⟩
theorem s4_run (f n : ByteArray) (ro st fu e : Int) (dn : Bool) (es : List (Rec × Ob))
 (h1 : (DkOK (ro, (st, (fu, (dn, es))))))
 (h2 : ((ByteArray.size f) ≤ (9223372036854775807 : Nat)))
 (h3 : ((ByteArray.size n) ≤ (9223372036854775807 : Nat)))
 (h4 : (((moveM (ro, (st, (fu, (dn, es)))) f n)).1 = e)) :
 ∃ ps, runO Tryd.prog DF gS1 100 Tryd.f31 ([pB 3, tB f, tB n] ++ dkBo 3 (ro, st, fu, dn, es), [.one (.ref 0 0), .one (.ref 1 0), .one (.ref 2 0)]) [] (eV e) ([pB 3, tB f, tB n] ++ dkBo 3 (moveM (ro, st, fu, dn, es) f n).2) = some ps ∧ AllQ ps := ⟨_, by kernel_rfl, qc (Eq.refl f) (qc (Eq.refl n) (qc (Eq.refl ro) (qc (Eq.refl st) (qc (Eq.refl fu) (qc (Eq.refl dn) (qc (Eq.refl es) (qc h1 (qc h2 (qc h3 (qc h4 (qc (Eq.refl f) (qc (Eq.refl n) (qc (Eq.refl ((((moveM (ro, (st, (fu, (dn, es)))) f n)).2).1)) (qc (Eq.refl (((((moveM (ro, (st, (fu, (dn, es)))) f n)).2).2).1)) (qc (Eq.refl ((((((moveM (ro, (st, (fu, (dn, es)))) f n)).2).2).2).1)) (qc (Eq.refl (((((((moveM (ro, (st, (fu, (dn, es)))) f n)).2).2).2).2).1)) (qc (Eq.refl (((((((moveM (ro, (st, (fu, (dn, es)))) f n)).2).2).2).2).2)) (qn))))))))))))))))))⟩
def cl2Rd (bs : List (BoxSt DF.τ)) (xs : List (A0 DF.τ)) : Option (DkT × ByteArray) :=
  match bs, xs with
  | .fixed _ [.ref 2 0] :: .fixed _ [.str f] :: ds, [.one (.ref 0 0), .one (.ref 1 0)] => (dkRdo ds).map fun d => (d, f)
  | _, _ => none
def cl2Pre (t : DkT × ByteArray) : List (BoxSt DF.τ) × List (A0 DF.τ) := ([pB 2, tB t.2] ++ dkBo 2 t.1, [.one (.ref 0 0), .one (.ref 1 0)])
def clwRd (bs : List (BoxSt DF.τ)) (xs : List (A0 DF.τ)) : Option (DkT × ByteArray × List Int) :=
  match bs, xs with
  | .fixed _ [.pw _ l] :: .fixed _ [.ref 3 0] :: .fixed _ [.str f] :: ds, [.one (.ref 0 0), .one (.ref 1 0), .one (.ref 2 0)] => (dkRdo ds).map fun d => (d, f, l)
  | _, _ => none
def clwPre (t : DkT × ByteArray × List Int) : List (BoxSt DF.τ) × List (A0 DF.τ) := ([wB t.2.2, pB 3, tB t.2.1] ++ dkBo 3 t.1, [.one (.ref 0 0), .one (.ref 1 0), .one (.ref 2 0)])
def clnRd (bs : List (BoxSt DF.τ)) (xs : List (A0 DF.τ)) : Option (DkT × ByteArray × ByteArray) :=
  match bs, xs with
  | .fixed _ [.ref 3 0] :: .fixed _ [.str f] :: .fixed _ [.str n] :: ds, [.one (.ref 0 0), .one (.ref 1 0), .one (.ref 2 0)] => (dkRdo ds).map fun d => (d, f, n)
  | _, _ => none
def clnPre (t : DkT × ByteArray × ByteArray) : List (BoxSt DF.τ) × List (A0 DF.τ) := ([pB 3, tB t.2.1, tB t.2.2] ++ dkBo 3 t.1, [.one (.ref 0 0), .one (.ref 1 0), .one (.ref 2 0)])
def sealL (l : List Int) : List Int := ofF [l] ++ (l ++ [])
def sv1E (d : DkT) (f : ByteArray) : Int := if (dropM d f).1 ≠ 41 then (dropM d f).1 else 0
noncomputable def s1Q := mkF DF Tryd.f23.ntmps cl2Rd cl2Pre (fun t => some (eV (sv1E t.1 t.2), [pB 2, tB t.2] ++ dkBo 2 (dropM t.1 t.2).2, [DkOK t.1, t.2.size ≤ 9223372036854775807]))
noncomputable def s2Q := mkF DF Tryd.f25.ntmps clwRd clwPre (fun t => some (eV (appendM t.1 t.2.1 (sealL t.2.2)).1, [wB t.2.2, pB 3, tB t.2.1] ++ dkBo 3 (appendM t.1 t.2.1 (sealL t.2.2)).2, [DkOK t.1, t.2.1.size ≤ 9223372036854775807, t.2.2.length ≤ 65536]))
noncomputable def s3Q := mkF DF Tryd.f29.ntmps cl2Rd cl2Pre (fun t => some (eV (syncM t.1 t.2).1, [pB 2, tB t.2] ++ dkBo 2 (syncM t.1 t.2).2, [DkOK t.1, t.2.size ≤ 9223372036854775807]))
noncomputable def s4Q := mkF DF Tryd.f31.ntmps clnRd clnPre (fun t => some (eV (moveM t.1 t.2.1 t.2.2).1, [pB 3, tB t.2.1, tB t.2.2] ++ dkBo 3 (moveM t.1 t.2.1 t.2.2).2, [DkOK t.1, t.2.1.size ≤ 9223372036854775807, t.2.2.size ≤ 9223372036854775807]))
theorem gS1_ok : GamOK Tryd.prog DF gS1 := gam_op drop_ok (gam_op sync_ok (gam_op move_ok gam_nil))
theorem gS2_ok : GamOK Tryd.prog DF gS2 := gam_freeze (gam_cons of_ok (gam_cons conc_ok (gam_op append_ok gam_nil)))
theorem s1_ok : OpOK Tryd.prog DF 23 s1Q := by
  refine opOK_mk gS1_ok mixed Tryd.func23 (enters_of Tryd.func23 (by kernel_rfl) rfl) ?_
  rintro ⟨⟨ro, st, fu, dn, es⟩, f⟩ r' bs' ps h hps
  simp only [Option.some.injEq, Prod.mk.injEq] at h
  obtain ⟨rfl, rfl, rfl⟩ := h
  have hd : DkOK (ro, st, fu, dn, es) := hps (DkOK _) (by simp)
  have hs : f.size ≤ 9223372036854775807 := hps (f.size ≤ 9223372036854775807) (by simp)
  unfold sv1E
  by_cases c : (dropM (ro, st, fu, dn, es) f).1 ≠ 41
  · rw [if_pos c]
    exact ⟨_, _, s1_other f ro st fu _ dn es hd hs (bne_iff_ne.2 c) rfl⟩
  · rw [if_neg c]
    exact ⟨_, _, s1_gone f ro st fu _ dn es hd hs (by rw [Decidable.byContradiction c]; rfl) rfl⟩
theorem ofF_len (l : List (List Int)) : (ofF l).length = 32 := by
  unfold ofF sumF
  rw [outS_eq _ 32 (by decide)]
  simp
theorem s2_ok : OpOK Tryd.prog DF 25 s2Q := by
  refine opOK_mk gS2_ok mixed Tryd.func25 (enters_of Tryd.func25 (by kernel_rfl) rfl) ?_
  rintro ⟨⟨ro, st, fu, dn, es⟩, f, l⟩ r' bs' ps h hps
  simp only [Option.some.injEq, Prod.mk.injEq] at h
  obtain ⟨rfl, rfl, rfl⟩ := h
  have hd : DkOK (ro, st, fu, dn, es) := hps (DkOK _) (by simp)
  have hs : f.size ≤ 9223372036854775807 := hps (f.size ≤ 9223372036854775807) (by simp)
  have hl : l.length ≤ 65536 := hps (l.length ≤ 65536) (by simp)
  have h32 := ofF_len [l]
  refine ⟨_, _, s2_run f l ro st fu _ dn es es ?_ (by decide) ?_ ?_ (by decide) hd hs ?_ rfl rfl rfl rfl rfl rfl⟩
  all_goals simp [h32]
  all_goals omega
theorem s3_ok : OpOK Tryd.prog DF 29 s3Q := by
  refine opOK_mk gS1_ok mixed Tryd.func29 (enters_of Tryd.func29 (by kernel_rfl) rfl) ?_
  rintro ⟨⟨ro, st, fu, dn, es⟩, f⟩ r' bs' ps h hps
  simp only [Option.some.injEq, Prod.mk.injEq] at h
  obtain ⟨rfl, rfl, rfl⟩ := h
  have hd : DkOK (ro, st, fu, dn, es) := hps (DkOK _) (by simp)
  have hs : f.size ≤ 9223372036854775807 := hps (f.size ≤ 9223372036854775807) (by simp)
  exact ⟨_, _, s3_run f ro st fu _ dn es hd hs rfl⟩
theorem s4_ok : OpOK Tryd.prog DF 31 s4Q := by
  refine opOK_mk gS1_ok mixed Tryd.func31 (enters_of Tryd.func31 (by kernel_rfl) rfl) ?_
  rintro ⟨⟨ro, st, fu, dn, es⟩, f, n⟩ r' bs' ps h hps
  simp only [Option.some.injEq, Prod.mk.injEq] at h
  obtain ⟨rfl, rfl, rfl⟩ := h
  have hd : DkOK (ro, st, fu, dn, es) := hps (DkOK _) (by simp)
  have hs : f.size ≤ 9223372036854775807 := hps (f.size ≤ 9223372036854775807) (by simp)
  have hn : n.size ≤ 9223372036854775807 := hps (n.size ≤ 9223372036854775807) (by simp)
  exact ⟨_, _, s4_run f n ro st fu _ dn es hd hs hn rfl⟩
end Go.Num
namespace Go.Num
open Go.Abs Go.Proofs Go.Shelf Go.RowKit
noncomputable def gSv : Gam DF := [(22, .fn rightF), (23, .op [true, true] s1Q), (25, .op [true, true, true] s2Q), (29, .op [true, true] s3Q), (31, .op [true, true, true] s4Q), (24, .op [true, false] dropQ)]
theorem gSv_ok : GamOK Tryd.prog DF gSv := gam_cons right_ok (gam_op s1_ok (gam_op s2_ok (gam_op s3_ok (gam_op s4_ok (gam_op drop_ok gam_nil)))))
def svX (n : ByteArray) (l : List Int) : List (A0 DF.τ) := [.one (.ref 0 0), .one (.str n), .one (.pw .u8 l)]
def fnew (n : ByteArray) : ByteArray := n ++ ⟨#[45, 110, 101, 119]⟩
theorem sv_name (n : ByteArray) (l : List Int) (d : DkT) (e : Int)
 (h1 : ((rightB n) = false))
 (h2 : ((ByteArray.size n) ≤ (9223372036854775807 : Nat)))
 (h3 : ((40 : Int) = e)) :
 ∃ ps, runO Tryd.prog DF gSv 100 Tryd.f8 (dkBt d, svX n l) [.is false] (eV e) (dkBt d) = some ps ∧ AllQ ps := ⟨_, by kernel_rfl, qc h1 (qc h2 (qc h3 (qc (Eq.refl ((d).1)) (qc (Eq.refl (((d).2).1)) (qc (Eq.refl ((((d).2).2).1)) (qc (Eq.refl (((((d).2).2).2).1)) (qc (Eq.refl (((((d).2).2).2).2)) (qn))))))))⟩
theorem sv_long (n : ByteArray) (l : List Int) (d : DkT) (e : Int)
 (h1 : ((rightB n) = true))
 (h2 : ((ByteArray.size n) ≤ (9223372036854775807 : Nat)))
 (h3 : ((decide ((((ByteArray.size n) : Nat) : Int) > (20 : Int))) = true))
 (h4 : ((40 : Int) = e)) :
 ∃ ps, runO Tryd.prog DF gSv 100 Tryd.f8 (dkBt d, svX n l) [.is true, .is true] (eV e) (dkBt d) = some ps ∧ AllQ ps := ⟨_, by kernel_rfl, qc h1 (qc h2 (qc h3 (qc h4 (qc (Eq.refl ((d).1)) (qc (Eq.refl (((d).2).1)) (qc (Eq.refl ((((d).2).2).1)) (qc (Eq.refl (((((d).2).2).2).1)) (qc (Eq.refl (((((d).2).2).2).2)) (qn)))))))))⟩
theorem sv_big (n : ByteArray) (l : List Int) (d : DkT) (e : Int)
 (h1 : ((rightB n) = true))
 (h2 : ((ByteArray.size n) ≤ (9223372036854775807 : Nat)))
 (h3 : ((decide ((((ByteArray.size n) : Nat) : Int) > (20 : Int))) = false))
 (h4 : ((decide ((((List.length l) : Nat) : Int) > (65536 : Int))) = true))
 (h5 : ((18 : Int) = e)) :
 ∃ ps, runO Tryd.prog DF gSv 100 Tryd.f8 (dkBt d, svX n l) [.is true, .is false, .is true] (eV e) (dkBt d) = some ps ∧ AllQ ps := ⟨_, by kernel_rfl, qc h1 (qc h2 (qc h3 (qc h4 (qc h5 (qc (Eq.refl ((d).1)) (qc (Eq.refl (((d).2).1)) (qc (Eq.refl ((((d).2).2).1)) (qc (Eq.refl (((((d).2).2).2).1)) (qc (Eq.refl (((((d).2).2).2).2)) (qn))))))))))⟩
theorem sv_d1 (n : ByteArray) (l : List Int) (d : DkT) (e : Int)
 (h1 : ((rightB n) = true))
 (h2 : ((ByteArray.size n) ≤ (9223372036854775807 : Nat)))
 (h3 : ((decide ((((ByteArray.size n) : Nat) : Int) > (20 : Int))) = false))
 (h4 : ((decide ((((List.length l) : Nat) : Int) > (65536 : Int))) = false))
 (h5 : (((((ByteArray.size n) + (4 : Nat)) : Nat) : Int) ≤ (9223372036854775807 : Int)))
 (h6 : ((0 : Int) < (((4 : Nat) : Nat) : Int)))
 (h7 : (DkOK d))
 (h8 : ((ByteArray.size (n ++ (⟨#[45, 110, 101, 119]⟩ : ByteArray))) ≤ (9223372036854775807 : Nat)))
 (h9 : (((sv1E d (n ++ (⟨#[45, 110, 101, 119]⟩ : ByteArray))) != (0 : Int)) = true))
 (h10 : (((sv1E d (n ++ (⟨#[45, 110, 101, 119]⟩ : ByteArray))) != (2 : Int)) = false))
 (h11 : ((sv1E d (n ++ (⟨#[45, 110, 101, 119]⟩ : ByteArray))) = e))
 (h12 : ((((dropM d (n ++ (⟨#[45, 110, 101, 119]⟩ : ByteArray)))).2).1 = (((dropM d (fnew n))).2).1))
 (h13 : (((((dropM d (n ++ (⟨#[45, 110, 101, 119]⟩ : ByteArray)))).2).2).1 = ((((dropM d (fnew n))).2).2).1))
 (h14 : ((((((dropM d (n ++ (⟨#[45, 110, 101, 119]⟩ : ByteArray)))).2).2).2).1 = (((((dropM d (fnew n))).2).2).2).1))
 (h15 : (((((((dropM d (n ++ (⟨#[45, 110, 101, 119]⟩ : ByteArray)))).2).2).2).2).1 = ((((((dropM d (fnew n))).2).2).2).2).1))
 (h16 : (((((((dropM d (n ++ (⟨#[45, 110, 101, 119]⟩ : ByteArray)))).2).2).2).2).2 = ((((((dropM d (fnew n))).2).2).2).2).2)) :
 ∃ ps, runO Tryd.prog DF gSv 100 Tryd.f8 (dkBt d, svX n l) [.is true, .is false, .is false, .roll, .is true, .is false] (eV e) (dkBt (dropM d (fnew n)).2) = some ps ∧ AllQ ps := ⟨_, by kernel_rfl, qc h1 (qc h2 (qc h3 (qc h4 (qc h5 (qc (show ((0 : Int) ≤ (0 : Int)) from by decide) (qc h6 (qc (Eq.refl ((n ++ (⟨#[45, 110, 101, 119]⟩ : ByteArray)))) (qc (Eq.refl ((d).1)) (qc (Eq.refl (((d).2).1)) (qc (Eq.refl ((((d).2).2).1)) (qc (Eq.refl (((((d).2).2).2).1)) (qc (Eq.refl (((((d).2).2).2).2)) (qc h7 (qc h8 (qc h9 (qc h10 (qc h11 (qc h12 (qc h13 (qc h14 (qc h15 (qc h16 (qn)))))))))))))))))))))))⟩
theorem sv_e1 (n : ByteArray) (l : List Int) (d : DkT) (e : Int)
 (h1 : ((rightB n) = true))
 (h2 : ((ByteArray.size n) ≤ (9223372036854775807 : Nat)))
 (h3 : ((decide ((((ByteArray.size n) : Nat) : Int) > (20 : Int))) = false))
 (h4 : ((decide ((((List.length l) : Nat) : Int) > (65536 : Int))) = false))
 (h5 : (((((ByteArray.size n) + (4 : Nat)) : Nat) : Int) ≤ (9223372036854775807 : Int)))
 (h6 : ((0 : Int) < (((4 : Nat) : Nat) : Int)))
 (h7 : (DkOK d))
 (h8 : ((ByteArray.size (n ++ (⟨#[45, 110, 101, 119]⟩ : ByteArray))) ≤ (9223372036854775807 : Nat)))
 (h9 : (((sv1E d (n ++ (⟨#[45, 110, 101, 119]⟩ : ByteArray))) != (0 : Int)) = true))
 (h10 : (((sv1E d (n ++ (⟨#[45, 110, 101, 119]⟩ : ByteArray))) != (2 : Int)) = true))
 (h11 : (DkOK ((dropM d (n ++ (⟨#[45, 110, 101, 119]⟩ : ByteArray)))).2))
 (h12 : ((sv1E d (n ++ (⟨#[45, 110, 101, 119]⟩ : ByteArray))) = e))
 (h13 : ((((dropM ((dropM d (n ++ (⟨#[45, 110, 101, 119]⟩ : ByteArray)))).2 (n ++ (⟨#[45, 110, 101, 119]⟩ : ByteArray)))).2).1 = (((dropM ((dropM d (fnew n))).2 (fnew n))).2).1))
 (h14 : (((((dropM ((dropM d (n ++ (⟨#[45, 110, 101, 119]⟩ : ByteArray)))).2 (n ++ (⟨#[45, 110, 101, 119]⟩ : ByteArray)))).2).2).1 = ((((dropM ((dropM d (fnew n))).2 (fnew n))).2).2).1))
 (h15 : ((((((dropM ((dropM d (n ++ (⟨#[45, 110, 101, 119]⟩ : ByteArray)))).2 (n ++ (⟨#[45, 110, 101, 119]⟩ : ByteArray)))).2).2).2).1 = (((((dropM ((dropM d (fnew n))).2 (fnew n))).2).2).2).1))
 (h16 : (((((((dropM ((dropM d (n ++ (⟨#[45, 110, 101, 119]⟩ : ByteArray)))).2 (n ++ (⟨#[45, 110, 101, 119]⟩ : ByteArray)))).2).2).2).2).1 = ((((((dropM ((dropM d (fnew n))).2 (fnew n))).2).2).2).2).1))
 (h17 : (((((((dropM ((dropM d (n ++ (⟨#[45, 110, 101, 119]⟩ : ByteArray)))).2 (n ++ (⟨#[45, 110, 101, 119]⟩ : ByteArray)))).2).2).2).2).2 = ((((((dropM ((dropM d (fnew n))).2 (fnew n))).2).2).2).2).2)) :
 ∃ ps, runO Tryd.prog DF gSv 100 Tryd.f8 (dkBt d, svX n l) [.is true, .is false, .is false, .roll, .is true, .is true] (eV e) (dkBt (dropM (dropM d (fnew n)).2 (fnew n)).2) = some ps ∧ AllQ ps := ⟨_, by kernel_rfl, qc h1 (qc h2 (qc h3 (qc h4 (qc h5 (qc (show ((0 : Int) ≤ (0 : Int)) from by decide) (qc h6 (qc (Eq.refl ((n ++ (⟨#[45, 110, 101, 119]⟩ : ByteArray)))) (qc (Eq.refl ((d).1)) (qc (Eq.refl (((d).2).1)) (qc (Eq.refl ((((d).2).2).1)) (qc (Eq.refl (((((d).2).2).2).1)) (qc (Eq.refl (((((d).2).2).2).2)) (qc h7 (qc h8 (qc h9 (qc h10 (qc (Eq.refl ((n ++ (⟨#[45, 110, 101, 119]⟩ : ByteArray)))) (qc (Eq.refl ((((dropM d (n ++ (⟨#[45, 110, 101, 119]⟩ : ByteArray)))).2).1)) (qc (Eq.refl (((((dropM d (n ++ (⟨#[45, 110, 101, 119]⟩ : ByteArray)))).2).2).1)) (qc (Eq.refl ((((((dropM d (n ++ (⟨#[45, 110, 101, 119]⟩ : ByteArray)))).2).2).2).1)) (qc (Eq.refl (((((((dropM d (n ++ (⟨#[45, 110, 101, 119]⟩ : ByteArray)))).2).2).2).2).1)) (qc (Eq.refl (((((((dropM d (n ++ (⟨#[45, 110, 101, 119]⟩ : ByteArray)))).2).2).2).2).2)) (qc h11 (qc h8 (qc h12 (qc h13 (qc h14 (qc h15 (qc h16 (qc h17 (qn)))))))))))))))))))))))))))))))⟩
theorem sv_d2 (n : ByteArray) (l : List Int) (d : DkT) (e : Int)
 (h1 : ((rightB n) = true))
 (h2 : ((ByteArray.size n) ≤ (9223372036854775807 : Nat)))
 (h3 : ((decide ((((ByteArray.size n) : Nat) : Int) > (20 : Int))) = false))
 (h4 : ((decide ((((List.length l) : Nat) : Int) > (65536 : Int))) = false))
 (h5 : (((((ByteArray.size n) + (4 : Nat)) : Nat) : Int) ≤ (9223372036854775807 : Int)))
 (h6 : ((0 : Int) < (((4 : Nat) : Nat) : Int)))
 (h7 : (DkOK d))
 (h8 : ((ByteArray.size (n ++ (⟨#[45, 110, 101, 119]⟩ : ByteArray))) ≤ (9223372036854775807 : Nat)))
 (h9 : (((sv1E d (n ++ (⟨#[45, 110, 101, 119]⟩ : ByteArray))) != (0 : Int)) = false))
 (h10 : ((Go.IntKind.wrap Go.IntKind.i64 ((0 : Int) + (1 : Int))) < (((4 : Nat) : Nat) : Int)))
 (h11 : (DkOK ((dropM d (n ++ (⟨#[45, 110, 101, 119]⟩ : ByteArray)))).2))
 (h12 : ((List.length l) ≤ (65536 : Nat)))
 (h13 : ((((appendM ((dropM d (n ++ (⟨#[45, 110, 101, 119]⟩ : ByteArray)))).2 (n ++ (⟨#[45, 110, 101, 119]⟩ : ByteArray)) (sealL l))).1 != (0 : Int)) = true))
 (h14 : ((((appendM ((dropM d (n ++ (⟨#[45, 110, 101, 119]⟩ : ByteArray)))).2 (n ++ (⟨#[45, 110, 101, 119]⟩ : ByteArray)) (sealL l))).1 != (2 : Int)) = false))
 (h15 : (((appendM ((dropM d (n ++ (⟨#[45, 110, 101, 119]⟩ : ByteArray)))).2 (n ++ (⟨#[45, 110, 101, 119]⟩ : ByteArray)) (sealL l))).1 = e))
 (h16 : ((((appendM ((dropM d (n ++ (⟨#[45, 110, 101, 119]⟩ : ByteArray)))).2 (n ++ (⟨#[45, 110, 101, 119]⟩ : ByteArray)) (sealL l))).2).1 = (((appendM ((dropM d (fnew n))).2 (fnew n) (sealL l))).2).1))
 (h17 : (((((appendM ((dropM d (n ++ (⟨#[45, 110, 101, 119]⟩ : ByteArray)))).2 (n ++ (⟨#[45, 110, 101, 119]⟩ : ByteArray)) (sealL l))).2).2).1 = ((((appendM ((dropM d (fnew n))).2 (fnew n) (sealL l))).2).2).1))
 (h18 : ((((((appendM ((dropM d (n ++ (⟨#[45, 110, 101, 119]⟩ : ByteArray)))).2 (n ++ (⟨#[45, 110, 101, 119]⟩ : ByteArray)) (sealL l))).2).2).2).1 = (((((appendM ((dropM d (fnew n))).2 (fnew n) (sealL l))).2).2).2).1))
 (h19 : (((((((appendM ((dropM d (n ++ (⟨#[45, 110, 101, 119]⟩ : ByteArray)))).2 (n ++ (⟨#[45, 110, 101, 119]⟩ : ByteArray)) (sealL l))).2).2).2).2).1 = ((((((appendM ((dropM d (fnew n))).2 (fnew n) (sealL l))).2).2).2).2).1))
 (h20 : (((((((appendM ((dropM d (n ++ (⟨#[45, 110, 101, 119]⟩ : ByteArray)))).2 (n ++ (⟨#[45, 110, 101, 119]⟩ : ByteArray)) (sealL l))).2).2).2).2).2 = ((((((appendM ((dropM d (fnew n))).2 (fnew n) (sealL l))).2).2).2).2).2)) :
 ∃ ps, runO Tryd.prog DF gSv 100 Tryd.f8 (dkBt d, svX n l) [.is true, .is false, .is false, .roll, .is false, .is true, .is false] (eV e) (dkBt (appendM (dropM d (fnew n)).2 (fnew n) (sealL l)).2) = some ps ∧ AllQ ps := ⟨_, by kernel_rfl, qc h1 (qc h2 (qc h3 (qc h4 (qc h5 (qc (show ((0 : Int) ≤ (0 : Int)) from by decide) (qc h6 (qc (Eq.refl ((n ++ (⟨#[45, 110, 101, 119]⟩ : ByteArray)))) (qc (Eq.refl ((d).1)) (qc (Eq.refl (((d).2).1)) (qc (Eq.refl ((((d).2).2).1)) (qc (Eq.refl (((((d).2).2).2).1)) (qc (Eq.refl (((((d).2).2).2).2)) (qc h7 (qc h8 (qc h9 (qc (show ((0 : Int) ≤ (Go.IntKind.wrap Go.IntKind.i64 ((0 : Int) + (1 : Int)))) from by decide) (qc h10 (qc (Eq.refl l) (qc (Eq.refl ((n ++ (⟨#[45, 110, 101, 119]⟩ : ByteArray)))) (qc (Eq.refl ((((dropM d (n ++ (⟨#[45, 110, 101, 119]⟩ : ByteArray)))).2).1)) (qc (Eq.refl (((((dropM d (n ++ (⟨#[45, 110, 101, 119]⟩ : ByteArray)))).2).2).1)) (qc (Eq.refl ((((((dropM d (n ++ (⟨#[45, 110, 101, 119]⟩ : ByteArray)))).2).2).2).1)) (qc (Eq.refl (((((((dropM d (n ++ (⟨#[45, 110, 101, 119]⟩ : ByteArray)))).2).2).2).2).1)) (qc (Eq.refl (((((((dropM d (n ++ (⟨#[45, 110, 101, 119]⟩ : ByteArray)))).2).2).2).2).2)) (qc h11 (qc h8 (qc h12 (qc h13 (qc h14 (qc h15 (qc h16 (qc h17 (qc h18 (qc h19 (qc h20 (qn))))))))))))))))))))))))))))))))))))⟩
theorem sv_e2 (n : ByteArray) (l : List Int) (d : DkT) (e : Int)
 (h1 : ((rightB n) = true))
 (h2 : ((ByteArray.size n) ≤ (9223372036854775807 : Nat)))
 (h3 : ((decide ((((ByteArray.size n) : Nat) : Int) > (20 : Int))) = false))
 (h4 : ((decide ((((List.length l) : Nat) : Int) > (65536 : Int))) = false))
 (h5 : (((((ByteArray.size n) + (4 : Nat)) : Nat) : Int) ≤ (9223372036854775807 : Int)))
 (h6 : ((0 : Int) < (((4 : Nat) : Nat) : Int)))
 (h7 : (DkOK d))
 (h8 : ((ByteArray.size (n ++ (⟨#[45, 110, 101, 119]⟩ : ByteArray))) ≤ (9223372036854775807 : Nat)))
 (h9 : (((sv1E d (n ++ (⟨#[45, 110, 101, 119]⟩ : ByteArray))) != (0 : Int)) = false))
 (h10 : ((Go.IntKind.wrap Go.IntKind.i64 ((0 : Int) + (1 : Int))) < (((4 : Nat) : Nat) : Int)))
 (h11 : (DkOK ((dropM d (n ++ (⟨#[45, 110, 101, 119]⟩ : ByteArray)))).2))
 (h12 : ((List.length l) ≤ (65536 : Nat)))
 (h13 : ((((appendM ((dropM d (n ++ (⟨#[45, 110, 101, 119]⟩ : ByteArray)))).2 (n ++ (⟨#[45, 110, 101, 119]⟩ : ByteArray)) (sealL l))).1 != (0 : Int)) = true))
 (h14 : ((((appendM ((dropM d (n ++ (⟨#[45, 110, 101, 119]⟩ : ByteArray)))).2 (n ++ (⟨#[45, 110, 101, 119]⟩ : ByteArray)) (sealL l))).1 != (2 : Int)) = true))
 (h15 : (DkOK ((appendM ((dropM d (n ++ (⟨#[45, 110, 101, 119]⟩ : ByteArray)))).2 (n ++ (⟨#[45, 110, 101, 119]⟩ : ByteArray)) (sealL l))).2))
 (h16 : (((appendM ((dropM d (n ++ (⟨#[45, 110, 101, 119]⟩ : ByteArray)))).2 (n ++ (⟨#[45, 110, 101, 119]⟩ : ByteArray)) (sealL l))).1 = e))
 (h17 : ((((dropM ((appendM ((dropM d (n ++ (⟨#[45, 110, 101, 119]⟩ : ByteArray)))).2 (n ++ (⟨#[45, 110, 101, 119]⟩ : ByteArray)) (sealL l))).2 (n ++ (⟨#[45, 110, 101, 119]⟩ : ByteArray)))).2).1 = (((dropM ((appendM ((dropM d (fnew n))).2 (fnew n) (sealL l))).2 (fnew n))).2).1))
 (h18 : (((((dropM ((appendM ((dropM d (n ++ (⟨#[45, 110, 101, 119]⟩ : ByteArray)))).2 (n ++ (⟨#[45, 110, 101, 119]⟩ : ByteArray)) (sealL l))).2 (n ++ (⟨#[45, 110, 101, 119]⟩ : ByteArray)))).2).2).1 = ((((dropM ((appendM ((dropM d (fnew n))).2 (fnew n) (sealL l))).2 (fnew n))).2).2).1))
 (h19 : ((((((dropM ((appendM ((dropM d (n ++ (⟨#[45, 110, 101, 119]⟩ : ByteArray)))).2 (n ++ (⟨#[45, 110, 101, 119]⟩ : ByteArray)) (sealL l))).2 (n ++ (⟨#[45, 110, 101, 119]⟩ : ByteArray)))).2).2).2).1 = (((((dropM ((appendM ((dropM d (fnew n))).2 (fnew n) (sealL l))).2 (fnew n))).2).2).2).1))
 (h20 : (((((((dropM ((appendM ((dropM d (n ++ (⟨#[45, 110, 101, 119]⟩ : ByteArray)))).2 (n ++ (⟨#[45, 110, 101, 119]⟩ : ByteArray)) (sealL l))).2 (n ++ (⟨#[45, 110, 101, 119]⟩ : ByteArray)))).2).2).2).2).1 = ((((((dropM ((appendM ((dropM d (fnew n))).2 (fnew n) (sealL l))).2 (fnew n))).2).2).2).2).1))
 (h21 : (((((((dropM ((appendM ((dropM d (n ++ (⟨#[45, 110, 101, 119]⟩ : ByteArray)))).2 (n ++ (⟨#[45, 110, 101, 119]⟩ : ByteArray)) (sealL l))).2 (n ++ (⟨#[45, 110, 101, 119]⟩ : ByteArray)))).2).2).2).2).2 = ((((((dropM ((appendM ((dropM d (fnew n))).2 (fnew n) (sealL l))).2 (fnew n))).2).2).2).2).2)) :
 ∃ ps, runO Tryd.prog DF gSv 100 Tryd.f8 (dkBt d, svX n l) [.is true, .is false, .is false, .roll, .is false, .is true, .is true] (eV e) (dkBt (dropM (appendM (dropM d (fnew n)).2 (fnew n) (sealL l)).2 (fnew n)).2) = some ps ∧ AllQ ps := ⟨_, by kernel_rfl, qc h1 (qc h2 (qc h3 (qc h4 (qc h5 (qc (show ((0 : Int) ≤ (0 : Int)) from by decide) (qc h6 (qc (Eq.refl ((n ++ (⟨#[45, 110, 101, 119]⟩ : ByteArray)))) (qc (Eq.refl ((d).1)) (qc (Eq.refl (((d).2).1)) (qc (Eq.refl ((((d).2).2).1)) (qc (Eq.refl (((((d).2).2).2).1)) (qc (Eq.refl (((((d).2).2).2).2)) (qc h7 (qc h8 (qc h9 (qc (show ((0 : Int) ≤ (Go.IntKind.wrap Go.IntKind.i64 ((0 : Int) + (1 : Int)))) from by decide) (qc h10 (qc (Eq.refl l) (qc (Eq.refl ((n ++ (⟨#[45, 110, 101, 119]⟩ : ByteArray)))) (qc (Eq.refl ((((dropM d (n ++ (⟨#[45, 110, 101, 119]⟩ : ByteArray)))).2).1)) (qc (Eq.refl (((((dropM d (n ++ (⟨#[45, 110, 101, 119]⟩ : ByteArray)))).2).2).1)) (qc (Eq.refl ((((((dropM d (n ++ (⟨#[45, 110, 101, 119]⟩ : ByteArray)))).2).2).2).1)) (qc (Eq.refl (((((((dropM d (n ++ (⟨#[45, 110, 101, 119]⟩ : ByteArray)))).2).2).2).2).1)) (qc (Eq.refl (((((((dropM d (n ++ (⟨#[45, 110, 101, 119]⟩ : ByteArray)))).2).2).2).2).2)) (qc h11 (qc h8 (qc h12 (qc h13 (qc h14 (qc (Eq.refl ((n ++ (⟨#[45, 110, 101, 119]⟩ : ByteArray)))) (qc (Eq.refl ((((appendM ((dropM d (n ++ (⟨#[45, 110, 101, 119]⟩ : ByteArray)))).2 (n ++ (⟨#[45, 110, 101, 119]⟩ : ByteArray)) (sealL l))).2).1)) (qc (Eq.refl (((((appendM ((dropM d (n ++ (⟨#[45, 110, 101, 119]⟩ : ByteArray)))).2 (n ++ (⟨#[45, 110, 101, 119]⟩ : ByteArray)) (sealL l))).2).2).1)) (qc (Eq.refl ((((((appendM ((dropM d (n ++ (⟨#[45, 110, 101, 119]⟩ : ByteArray)))).2 (n ++ (⟨#[45, 110, 101, 119]⟩ : ByteArray)) (sealL l))).2).2).2).1)) (qc (Eq.refl (((((((appendM ((dropM d (n ++ (⟨#[45, 110, 101, 119]⟩ : ByteArray)))).2 (n ++ (⟨#[45, 110, 101, 119]⟩ : ByteArray)) (sealL l))).2).2).2).2).1)) (qc (Eq.refl (((((((appendM ((dropM d (n ++ (⟨#[45, 110, 101, 119]⟩ : ByteArray)))).2 (n ++ (⟨#[45, 110, 101, 119]⟩ : ByteArray)) (sealL l))).2).2).2).2).2)) (qc h15 (qc h8 (qc h16 (qc h17 (qc h18 (qc h19 (qc h20 (qc h21 (qn))))))))))))))))))))))))))))))))))))))))))))⟩
theorem sv_d3 (n : ByteArray) (l : List Int) (d : DkT) (e : Int)
 (h1 : ((rightB n) = true))
 (h2 : ((ByteArray.size n) ≤ (9223372036854775807 : Nat)))
 (h3 : ((decide ((((ByteArray.size n) : Nat) : Int) > (20 : Int))) = false))
 (h4 : ((decide ((((List.length l) : Nat) : Int) > (65536 : Int))) = false))
 (h5 : (((((ByteArray.size n) + (4 : Nat)) : Nat) : Int) ≤ (9223372036854775807 : Int)))
 (h6 : ((0 : Int) < (((4 : Nat) : Nat) : Int)))
 (h7 : (DkOK d))
 (h8 : ((ByteArray.size (n ++ (⟨#[45, 110, 101, 119]⟩ : ByteArray))) ≤ (9223372036854775807 : Nat)))
 (h9 : (((sv1E d (n ++ (⟨#[45, 110, 101, 119]⟩ : ByteArray))) != (0 : Int)) = false))
 (h10 : ((Go.IntKind.wrap Go.IntKind.i64 ((0 : Int) + (1 : Int))) < (((4 : Nat) : Nat) : Int)))
 (h11 : (DkOK ((dropM d (n ++ (⟨#[45, 110, 101, 119]⟩ : ByteArray)))).2))
 (h12 : ((List.length l) ≤ (65536 : Nat)))
 (h13 : ((((appendM ((dropM d (n ++ (⟨#[45, 110, 101, 119]⟩ : ByteArray)))).2 (n ++ (⟨#[45, 110, 101, 119]⟩ : ByteArray)) (sealL l))).1 != (0 : Int)) = false))
 (h14 : ((Go.IntKind.wrap Go.IntKind.i64 ((Go.IntKind.wrap Go.IntKind.i64 ((0 : Int) + (1 : Int))) + (1 : Int))) < (((4 : Nat) : Nat) : Int)))
 (h15 : (DkOK ((appendM ((dropM d (n ++ (⟨#[45, 110, 101, 119]⟩ : ByteArray)))).2 (n ++ (⟨#[45, 110, 101, 119]⟩ : ByteArray)) (sealL l))).2))
 (h16 : ((((syncM ((appendM ((dropM d (n ++ (⟨#[45, 110, 101, 119]⟩ : ByteArray)))).2 (n ++ (⟨#[45, 110, 101, 119]⟩ : ByteArray)) (sealL l))).2 (n ++ (⟨#[45, 110, 101, 119]⟩ : ByteArray)))).1 != (0 : Int)) = true))
 (h17 : ((((syncM ((appendM ((dropM d (n ++ (⟨#[45, 110, 101, 119]⟩ : ByteArray)))).2 (n ++ (⟨#[45, 110, 101, 119]⟩ : ByteArray)) (sealL l))).2 (n ++ (⟨#[45, 110, 101, 119]⟩ : ByteArray)))).1 != (2 : Int)) = false))
 (h18 : (((syncM ((appendM ((dropM d (n ++ (⟨#[45, 110, 101, 119]⟩ : ByteArray)))).2 (n ++ (⟨#[45, 110, 101, 119]⟩ : ByteArray)) (sealL l))).2 (n ++ (⟨#[45, 110, 101, 119]⟩ : ByteArray)))).1 = e))
 (h19 : ((((syncM ((appendM ((dropM d (n ++ (⟨#[45, 110, 101, 119]⟩ : ByteArray)))).2 (n ++ (⟨#[45, 110, 101, 119]⟩ : ByteArray)) (sealL l))).2 (n ++ (⟨#[45, 110, 101, 119]⟩ : ByteArray)))).2).1 = (((syncM ((appendM ((dropM d (fnew n))).2 (fnew n) (sealL l))).2 (fnew n))).2).1))
 (h20 : (((((syncM ((appendM ((dropM d (n ++ (⟨#[45, 110, 101, 119]⟩ : ByteArray)))).2 (n ++ (⟨#[45, 110, 101, 119]⟩ : ByteArray)) (sealL l))).2 (n ++ (⟨#[45, 110, 101, 119]⟩ : ByteArray)))).2).2).1 = ((((syncM ((appendM ((dropM d (fnew n))).2 (fnew n) (sealL l))).2 (fnew n))).2).2).1))
 (h21 : ((((((syncM ((appendM ((dropM d (n ++ (⟨#[45, 110, 101, 119]⟩ : ByteArray)))).2 (n ++ (⟨#[45, 110, 101, 119]⟩ : ByteArray)) (sealL l))).2 (n ++ (⟨#[45, 110, 101, 119]⟩ : ByteArray)))).2).2).2).1 = (((((syncM ((appendM ((dropM d (fnew n))).2 (fnew n) (sealL l))).2 (fnew n))).2).2).2).1))
 (h22 : (((((((syncM ((appendM ((dropM d (n ++ (⟨#[45, 110, 101, 119]⟩ : ByteArray)))).2 (n ++ (⟨#[45, 110, 101, 119]⟩ : ByteArray)) (sealL l))).2 (n ++ (⟨#[45, 110, 101, 119]⟩ : ByteArray)))).2).2).2).2).1 = ((((((syncM ((appendM ((dropM d (fnew n))).2 (fnew n) (sealL l))).2 (fnew n))).2).2).2).2).1))
 (h23 : (((((((syncM ((appendM ((dropM d (n ++ (⟨#[45, 110, 101, 119]⟩ : ByteArray)))).2 (n ++ (⟨#[45, 110, 101, 119]⟩ : ByteArray)) (sealL l))).2 (n ++ (⟨#[45, 110, 101, 119]⟩ : ByteArray)))).2).2).2).2).2 = ((((((syncM ((appendM ((dropM d (fnew n))).2 (fnew n) (sealL l))).2 (fnew n))).2).2).2).2).2)) :
 ∃ ps, runO Tryd.prog DF gSv 100 Tryd.f8 (dkBt d, svX n l) [.is true, .is false, .is false, .roll, .is false, .is false, .is true, .is false] (eV e) (dkBt (syncM (appendM (dropM d (fnew n)).2 (fnew n) (sealL l)).2 (fnew n)).2) = some ps ∧ AllQ ps := ⟨_, by kernel_rfl, qc h1 (qc h2 (qc h3 (qc h4 (qc h5 (qc (show ((0 : Int) ≤ (0 : Int)) from by decide) (qc h6 (qc (Eq.refl ((n ++ (⟨#[45, 110, 101, 119]⟩ : ByteArray)))) (qc (Eq.refl ((d).1)) (qc (Eq.refl (((d).2).1)) (qc (Eq.refl ((((d).2).2).1)) (qc (Eq.refl (((((d).2).2).2).1)) (qc (Eq.refl (((((d).2).2).2).2)) (qc h7 (qc h8 (qc h9 (qc (show ((0 : Int) ≤ (Go.IntKind.wrap Go.IntKind.i64 ((0 : Int) + (1 : Int)))) from by decide) (qc h10 (qc (Eq.refl l) (qc (Eq.refl ((n ++ (⟨#[45, 110, 101, 119]⟩ : ByteArray)))) (qc (Eq.refl ((((dropM d (n ++ (⟨#[45, 110, 101, 119]⟩ : ByteArray)))).2).1)) (qc (Eq.refl (((((dropM d (n ++ (⟨#[45, 110, 101, 119]⟩ : ByteArray)))).2).2).1)) (qc (Eq.refl ((((((dropM d (n ++ (⟨#[45, 110, 101, 119]⟩ : ByteArray)))).2).2).2).1)) (qc (Eq.refl (((((((dropM d (n ++ (⟨#[45, 110, 101, 119]⟩ : ByteArray)))).2).2).2).2).1)) (qc (Eq.refl (((((((dropM d (n ++ (⟨#[45, 110, 101, 119]⟩ : ByteArray)))).2).2).2).2).2)) (qc h11 (qc h8 (qc h12 (qc h13 (qc (show ((0 : Int) ≤ (Go.IntKind.wrap Go.IntKind.i64 ((Go.IntKind.wrap Go.IntKind.i64 ((0 : Int) + (1 : Int))) + (1 : Int)))) from by decide) (qc h14 (qc (Eq.refl ((n ++ (⟨#[45, 110, 101, 119]⟩ : ByteArray)))) (qc (Eq.refl ((((appendM ((dropM d (n ++ (⟨#[45, 110, 101, 119]⟩ : ByteArray)))).2 (n ++ (⟨#[45, 110, 101, 119]⟩ : ByteArray)) (sealL l))).2).1)) (qc (Eq.refl (((((appendM ((dropM d (n ++ (⟨#[45, 110, 101, 119]⟩ : ByteArray)))).2 (n ++ (⟨#[45, 110, 101, 119]⟩ : ByteArray)) (sealL l))).2).2).1)) (qc (Eq.refl ((((((appendM ((dropM d (n ++ (⟨#[45, 110, 101, 119]⟩ : ByteArray)))).2 (n ++ (⟨#[45, 110, 101, 119]⟩ : ByteArray)) (sealL l))).2).2).2).1)) (qc (Eq.refl (((((((appendM ((dropM d (n ++ (⟨#[45, 110, 101, 119]⟩ : ByteArray)))).2 (n ++ (⟨#[45, 110, 101, 119]⟩ : ByteArray)) (sealL l))).2).2).2).2).1)) (qc (Eq.refl (((((((appendM ((dropM d (n ++ (⟨#[45, 110, 101, 119]⟩ : ByteArray)))).2 (n ++ (⟨#[45, 110, 101, 119]⟩ : ByteArray)) (sealL l))).2).2).2).2).2)) (qc h15 (qc h8 (qc h16 (qc h17 (qc h18 (qc h19 (qc h20 (qc h21 (qc h22 (qc h23 (qn)))))))))))))))))))))))))))))))))))))))))))))))⟩
theorem sv_e3 (n : ByteArray) (l : List Int) (d : DkT) (e : Int)
 (h1 : ((rightB n) = true))
 (h2 : ((ByteArray.size n) ≤ (9223372036854775807 : Nat)))
 (h3 : ((decide ((((ByteArray.size n) : Nat) : Int) > (20 : Int))) = false))
 (h4 : ((decide ((((List.length l) : Nat) : Int) > (65536 : Int))) = false))
 (h5 : (((((ByteArray.size n) + (4 : Nat)) : Nat) : Int) ≤ (9223372036854775807 : Int)))
 (h6 : ((0 : Int) < (((4 : Nat) : Nat) : Int)))
 (h7 : (DkOK d))
 (h8 : ((ByteArray.size (n ++ (⟨#[45, 110, 101, 119]⟩ : ByteArray))) ≤ (9223372036854775807 : Nat)))
 (h9 : (((sv1E d (n ++ (⟨#[45, 110, 101, 119]⟩ : ByteArray))) != (0 : Int)) = false))
 (h10 : ((Go.IntKind.wrap Go.IntKind.i64 ((0 : Int) + (1 : Int))) < (((4 : Nat) : Nat) : Int)))
 (h11 : (DkOK ((dropM d (n ++ (⟨#[45, 110, 101, 119]⟩ : ByteArray)))).2))
 (h12 : ((List.length l) ≤ (65536 : Nat)))
 (h13 : ((((appendM ((dropM d (n ++ (⟨#[45, 110, 101, 119]⟩ : ByteArray)))).2 (n ++ (⟨#[45, 110, 101, 119]⟩ : ByteArray)) (sealL l))).1 != (0 : Int)) = false))
 (h14 : ((Go.IntKind.wrap Go.IntKind.i64 ((Go.IntKind.wrap Go.IntKind.i64 ((0 : Int) + (1 : Int))) + (1 : Int))) < (((4 : Nat) : Nat) : Int)))
 (h15 : (DkOK ((appendM ((dropM d (n ++ (⟨#[45, 110, 101, 119]⟩ : ByteArray)))).2 (n ++ (⟨#[45, 110, 101, 119]⟩ : ByteArray)) (sealL l))).2))
 (h16 : ((((syncM ((appendM ((dropM d (n ++ (⟨#[45, 110, 101, 119]⟩ : ByteArray)))).2 (n ++ (⟨#[45, 110, 101, 119]⟩ : ByteArray)) (sealL l))).2 (n ++ (⟨#[45, 110, 101, 119]⟩ : ByteArray)))).1 != (0 : Int)) = true))
 (h17 : ((((syncM ((appendM ((dropM d (n ++ (⟨#[45, 110, 101, 119]⟩ : ByteArray)))).2 (n ++ (⟨#[45, 110, 101, 119]⟩ : ByteArray)) (sealL l))).2 (n ++ (⟨#[45, 110, 101, 119]⟩ : ByteArray)))).1 != (2 : Int)) = true))
 (h18 : (DkOK ((syncM ((appendM ((dropM d (n ++ (⟨#[45, 110, 101, 119]⟩ : ByteArray)))).2 (n ++ (⟨#[45, 110, 101, 119]⟩ : ByteArray)) (sealL l))).2 (n ++ (⟨#[45, 110, 101, 119]⟩ : ByteArray)))).2))
 (h19 : (((syncM ((appendM ((dropM d (n ++ (⟨#[45, 110, 101, 119]⟩ : ByteArray)))).2 (n ++ (⟨#[45, 110, 101, 119]⟩ : ByteArray)) (sealL l))).2 (n ++ (⟨#[45, 110, 101, 119]⟩ : ByteArray)))).1 = e))
 (h20 : ((((dropM ((syncM ((appendM ((dropM d (n ++ (⟨#[45, 110, 101, 119]⟩ : ByteArray)))).2 (n ++ (⟨#[45, 110, 101, 119]⟩ : ByteArray)) (sealL l))).2 (n ++ (⟨#[45, 110, 101, 119]⟩ : ByteArray)))).2 (n ++ (⟨#[45, 110, 101, 119]⟩ : ByteArray)))).2).1 = (((dropM ((syncM ((appendM ((dropM d (fnew n))).2 (fnew n) (sealL l))).2 (fnew n))).2 (fnew n))).2).1))
 (h21 : (((((dropM ((syncM ((appendM ((dropM d (n ++ (⟨#[45, 110, 101, 119]⟩ : ByteArray)))).2 (n ++ (⟨#[45, 110, 101, 119]⟩ : ByteArray)) (sealL l))).2 (n ++ (⟨#[45, 110, 101, 119]⟩ : ByteArray)))).2 (n ++ (⟨#[45, 110, 101, 119]⟩ : ByteArray)))).2).2).1 = ((((dropM ((syncM ((appendM ((dropM d (fnew n))).2 (fnew n) (sealL l))).2 (fnew n))).2 (fnew n))).2).2).1))
 (h22 : ((((((dropM ((syncM ((appendM ((dropM d (n ++ (⟨#[45, 110, 101, 119]⟩ : ByteArray)))).2 (n ++ (⟨#[45, 110, 101, 119]⟩ : ByteArray)) (sealL l))).2 (n ++ (⟨#[45, 110, 101, 119]⟩ : ByteArray)))).2 (n ++ (⟨#[45, 110, 101, 119]⟩ : ByteArray)))).2).2).2).1 = (((((dropM ((syncM ((appendM ((dropM d (fnew n))).2 (fnew n) (sealL l))).2 (fnew n))).2 (fnew n))).2).2).2).1))
 (h23 : (((((((dropM ((syncM ((appendM ((dropM d (n ++ (⟨#[45, 110, 101, 119]⟩ : ByteArray)))).2 (n ++ (⟨#[45, 110, 101, 119]⟩ : ByteArray)) (sealL l))).2 (n ++ (⟨#[45, 110, 101, 119]⟩ : ByteArray)))).2 (n ++ (⟨#[45, 110, 101, 119]⟩ : ByteArray)))).2).2).2).2).1 = ((((((dropM ((syncM ((appendM ((dropM d (fnew n))).2 (fnew n) (sealL l))).2 (fnew n))).2 (fnew n))).2).2).2).2).1))
 (h24 : (((((((dropM ((syncM ((appendM ((dropM d (n ++ (⟨#[45, 110, 101, 119]⟩ : ByteArray)))).2 (n ++ (⟨#[45, 110, 101, 119]⟩ : ByteArray)) (sealL l))).2 (n ++ (⟨#[45, 110, 101, 119]⟩ : ByteArray)))).2 (n ++ (⟨#[45, 110, 101, 119]⟩ : ByteArray)))).2).2).2).2).2 = ((((((dropM ((syncM ((appendM ((dropM d (fnew n))).2 (fnew n) (sealL l))).2 (fnew n))).2 (fnew n))).2).2).2).2).2)) :
 ∃ ps, runO Tryd.prog DF gSv 100 Tryd.f8 (dkBt d, svX n l) [.is true, .is false, .is false, .roll, .is false, .is false, .is true, .is true] (eV e) (dkBt (dropM (syncM (appendM (dropM d (fnew n)).2 (fnew n) (sealL l)).2 (fnew n)).2 (fnew n)).2) = some ps ∧ AllQ ps := ⟨_, by kernel_rfl, qc h1 (qc h2 (qc h3 (qc h4 (qc h5 (qc (show ((0 : Int) ≤ (0 : Int)) from by decide) (qc h6 (qc (Eq.refl ((n ++ (⟨#[45, 110, 101, 119]⟩ : ByteArray)))) (qc (Eq.refl ((d).1)) (qc (Eq.refl (((d).2).1)) (qc (Eq.refl ((((d).2).2).1)) (qc (Eq.refl (((((d).2).2).2).1)) (qc (Eq.refl (((((d).2).2).2).2)) (qc h7 (qc h8 (qc h9 (qc (show ((0 : Int) ≤ (Go.IntKind.wrap Go.IntKind.i64 ((0 : Int) + (1 : Int)))) from by decide) (qc h10 (qc (Eq.refl l) (qc (Eq.refl ((n ++ (⟨#[45, 110, 101, 119]⟩ : ByteArray)))) (qc (Eq.refl ((((dropM d (n ++ (⟨#[45, 110, 101, 119]⟩ : ByteArray)))).2).1)) (qc (Eq.refl (((((dropM d (n ++ (⟨#[45, 110, 101, 119]⟩ : ByteArray)))).2).2).1)) (qc (Eq.refl ((((((dropM d (n ++ (⟨#[45, 110, 101, 119]⟩ : ByteArray)))).2).2).2).1)) (qc (Eq.refl (((((((dropM d (n ++ (⟨#[45, 110, 101, 119]⟩ : ByteArray)))).2).2).2).2).1)) (qc (Eq.refl (((((((dropM d (n ++ (⟨#[45, 110, 101, 119]⟩ : ByteArray)))).2).2).2).2).2)) (qc h11 (qc h8 (qc h12 (qc h13 (qc (show ((0 : Int) ≤ (Go.IntKind.wrap Go.IntKind.i64 ((Go.IntKind.wrap Go.IntKind.i64 ((0 : Int) + (1 : Int))) + (1 : Int)))) from by decide) (qc h14 (qc (Eq.refl ((n ++ (⟨#[45, 110, 101, 119]⟩ : ByteArray)))) (qc (Eq.refl ((((appendM ((dropM d (n ++ (⟨#[45, 110, 101, 119]⟩ : ByteArray)))).2 (n ++ (⟨#[45, 110, 101, 119]⟩ : ByteArray)) (sealL l))).2).1)) (qc (Eq.refl (((((appendM ((dropM d (n ++ (⟨#[45, 110, 101, 119]⟩ : ByteArray)))).2 (n ++ (⟨#[45, 110, 101, 119]⟩ : ByteArray)) (sealL l))).2).2).1)) (qc (Eq.refl ((((((appendM ((dropM d (n ++ (⟨#[45, 110, 101, 119]⟩ : ByteArray)))).2 (n ++ (⟨#[45, 110, 101, 119]⟩ : ByteArray)) (sealL l))).2).2).2).1)) (qc (Eq.refl (((((((appendM ((dropM d (n ++ (⟨#[45, 110, 101, 119]⟩ : ByteArray)))).2 (n ++ (⟨#[45, 110, 101, 119]⟩ : ByteArray)) (sealL l))).2).2).2).2).1)) (qc (Eq.refl (((((((appendM ((dropM d (n ++ (⟨#[45, 110, 101, 119]⟩ : ByteArray)))).2 (n ++ (⟨#[45, 110, 101, 119]⟩ : ByteArray)) (sealL l))).2).2).2).2).2)) (qc h15 (qc h8 (qc h16 (qc h17 (qc (Eq.refl ((n ++ (⟨#[45, 110, 101, 119]⟩ : ByteArray)))) (qc (Eq.refl ((((syncM ((appendM ((dropM d (n ++ (⟨#[45, 110, 101, 119]⟩ : ByteArray)))).2 (n ++ (⟨#[45, 110, 101, 119]⟩ : ByteArray)) (sealL l))).2 (n ++ (⟨#[45, 110, 101, 119]⟩ : ByteArray)))).2).1)) (qc (Eq.refl (((((syncM ((appendM ((dropM d (n ++ (⟨#[45, 110, 101, 119]⟩ : ByteArray)))).2 (n ++ (⟨#[45, 110, 101, 119]⟩ : ByteArray)) (sealL l))).2 (n ++ (⟨#[45, 110, 101, 119]⟩ : ByteArray)))).2).2).1)) (qc (Eq.refl ((((((syncM ((appendM ((dropM d (n ++ (⟨#[45, 110, 101, 119]⟩ : ByteArray)))).2 (n ++ (⟨#[45, 110, 101, 119]⟩ : ByteArray)) (sealL l))).2 (n ++ (⟨#[45, 110, 101, 119]⟩ : ByteArray)))).2).2).2).1)) (qc (Eq.refl (((((((syncM ((appendM ((dropM d (n ++ (⟨#[45, 110, 101, 119]⟩ : ByteArray)))).2 (n ++ (⟨#[45, 110, 101, 119]⟩ : ByteArray)) (sealL l))).2 (n ++ (⟨#[45, 110, 101, 119]⟩ : ByteArray)))).2).2).2).2).1)) (qc (Eq.refl (((((((syncM ((appendM ((dropM d (n ++ (⟨#[45, 110, 101, 119]⟩ : ByteArray)))).2 (n ++ (⟨#[45, 110, 101, 119]⟩ : ByteArray)) (sealL l))).2 (n ++ (⟨#[45, 110, 101, 119]⟩ : ByteArray)))).2).2).2).2).2)) (qc h18 (qc h8 (qc h19 (qc h20 (qc h21 (qc h22 (qc h23 (qc h24 (qn)))))))))))))))))))))))))))))))))))))))))))))))))))))))⟩
theorem sv_d4 (n : ByteArray) (l : List Int) (d : DkT) (e : Int)
 (h1 : ((rightB n) = true))
 (h2 : ((ByteArray.size n) ≤ (9223372036854775807 : Nat)))
 (h3 : ((decide ((((ByteArray.size n) : Nat) : Int) > (20 : Int))) = false))
 (h4 : ((decide ((((List.length l) : Nat) : Int) > (65536 : Int))) = false))
 (h5 : (((((ByteArray.size n) + (4 : Nat)) : Nat) : Int) ≤ (9223372036854775807 : Int)))
 (h6 : ((0 : Int) < (((4 : Nat) : Nat) : Int)))
 (h7 : (DkOK d))
 (h8 : ((ByteArray.size (n ++ (⟨#[45, 110, 101, 119]⟩ : ByteArray))) ≤ (9223372036854775807 : Nat)))
 (h9 : (((sv1E d (n ++ (⟨#[45, 110, 101, 119]⟩ : ByteArray))) != (0 : Int)) = false))
 (h10 : ((Go.IntKind.wrap Go.IntKind.i64 ((0 : Int) + (1 : Int))) < (((4 : Nat) : Nat) : Int)))
 (h11 : (DkOK ((dropM d (n ++ (⟨#[45, 110, 101, 119]⟩ : ByteArray)))).2))
 (h12 : ((List.length l) ≤ (65536 : Nat)))
 (h13 : ((((appendM ((dropM d (n ++ (⟨#[45, 110, 101, 119]⟩ : ByteArray)))).2 (n ++ (⟨#[45, 110, 101, 119]⟩ : ByteArray)) (sealL l))).1 != (0 : Int)) = false))
 (h14 : ((Go.IntKind.wrap Go.IntKind.i64 ((Go.IntKind.wrap Go.IntKind.i64 ((0 : Int) + (1 : Int))) + (1 : Int))) < (((4 : Nat) : Nat) : Int)))
 (h15 : (DkOK ((appendM ((dropM d (n ++ (⟨#[45, 110, 101, 119]⟩ : ByteArray)))).2 (n ++ (⟨#[45, 110, 101, 119]⟩ : ByteArray)) (sealL l))).2))
 (h16 : ((((syncM ((appendM ((dropM d (n ++ (⟨#[45, 110, 101, 119]⟩ : ByteArray)))).2 (n ++ (⟨#[45, 110, 101, 119]⟩ : ByteArray)) (sealL l))).2 (n ++ (⟨#[45, 110, 101, 119]⟩ : ByteArray)))).1 != (0 : Int)) = false))
 (h17 : ((Go.IntKind.wrap Go.IntKind.i64 ((Go.IntKind.wrap Go.IntKind.i64 ((Go.IntKind.wrap Go.IntKind.i64 ((0 : Int) + (1 : Int))) + (1 : Int))) + (1 : Int))) < (((4 : Nat) : Nat) : Int)))
 (h18 : (DkOK ((syncM ((appendM ((dropM d (n ++ (⟨#[45, 110, 101, 119]⟩ : ByteArray)))).2 (n ++ (⟨#[45, 110, 101, 119]⟩ : ByteArray)) (sealL l))).2 (n ++ (⟨#[45, 110, 101, 119]⟩ : ByteArray)))).2))
 (h19 : ((((moveM ((syncM ((appendM ((dropM d (n ++ (⟨#[45, 110, 101, 119]⟩ : ByteArray)))).2 (n ++ (⟨#[45, 110, 101, 119]⟩ : ByteArray)) (sealL l))).2 (n ++ (⟨#[45, 110, 101, 119]⟩ : ByteArray)))).2 (n ++ (⟨#[45, 110, 101, 119]⟩ : ByteArray)) n)).1 != (0 : Int)) = true))
 (h20 : ((((moveM ((syncM ((appendM ((dropM d (n ++ (⟨#[45, 110, 101, 119]⟩ : ByteArray)))).2 (n ++ (⟨#[45, 110, 101, 119]⟩ : ByteArray)) (sealL l))).2 (n ++ (⟨#[45, 110, 101, 119]⟩ : ByteArray)))).2 (n ++ (⟨#[45, 110, 101, 119]⟩ : ByteArray)) n)).1 != (2 : Int)) = false))
 (h21 : (((moveM ((syncM ((appendM ((dropM d (n ++ (⟨#[45, 110, 101, 119]⟩ : ByteArray)))).2 (n ++ (⟨#[45, 110, 101, 119]⟩ : ByteArray)) (sealL l))).2 (n ++ (⟨#[45, 110, 101, 119]⟩ : ByteArray)))).2 (n ++ (⟨#[45, 110, 101, 119]⟩ : ByteArray)) n)).1 = e))
 (h22 : ((((moveM ((syncM ((appendM ((dropM d (n ++ (⟨#[45, 110, 101, 119]⟩ : ByteArray)))).2 (n ++ (⟨#[45, 110, 101, 119]⟩ : ByteArray)) (sealL l))).2 (n ++ (⟨#[45, 110, 101, 119]⟩ : ByteArray)))).2 (n ++ (⟨#[45, 110, 101, 119]⟩ : ByteArray)) n)).2).1 = (((moveM ((syncM ((appendM ((dropM d (fnew n))).2 (fnew n) (sealL l))).2 (fnew n))).2 (fnew n) n)).2).1))
 (h23 : (((((moveM ((syncM ((appendM ((dropM d (n ++ (⟨#[45, 110, 101, 119]⟩ : ByteArray)))).2 (n ++ (⟨#[45, 110, 101, 119]⟩ : ByteArray)) (sealL l))).2 (n ++ (⟨#[45, 110, 101, 119]⟩ : ByteArray)))).2 (n ++ (⟨#[45, 110, 101, 119]⟩ : ByteArray)) n)).2).2).1 = ((((moveM ((syncM ((appendM ((dropM d (fnew n))).2 (fnew n) (sealL l))).2 (fnew n))).2 (fnew n) n)).2).2).1))
 (h24 : ((((((moveM ((syncM ((appendM ((dropM d (n ++ (⟨#[45, 110, 101, 119]⟩ : ByteArray)))).2 (n ++ (⟨#[45, 110, 101, 119]⟩ : ByteArray)) (sealL l))).2 (n ++ (⟨#[45, 110, 101, 119]⟩ : ByteArray)))).2 (n ++ (⟨#[45, 110, 101, 119]⟩ : ByteArray)) n)).2).2).2).1 = (((((moveM ((syncM ((appendM ((dropM d (fnew n))).2 (fnew n) (sealL l))).2 (fnew n))).2 (fnew n) n)).2).2).2).1))
 (h25 : (((((((moveM ((syncM ((appendM ((dropM d (n ++ (⟨#[45, 110, 101, 119]⟩ : ByteArray)))).2 (n ++ (⟨#[45, 110, 101, 119]⟩ : ByteArray)) (sealL l))).2 (n ++ (⟨#[45, 110, 101, 119]⟩ : ByteArray)))).2 (n ++ (⟨#[45, 110, 101, 119]⟩ : ByteArray)) n)).2).2).2).2).1 = ((((((moveM ((syncM ((appendM ((dropM d (fnew n))).2 (fnew n) (sealL l))).2 (fnew n))).2 (fnew n) n)).2).2).2).2).1))
 (h26 : (((((((moveM ((syncM ((appendM ((dropM d (n ++ (⟨#[45, 110, 101, 119]⟩ : ByteArray)))).2 (n ++ (⟨#[45, 110, 101, 119]⟩ : ByteArray)) (sealL l))).2 (n ++ (⟨#[45, 110, 101, 119]⟩ : ByteArray)))).2 (n ++ (⟨#[45, 110, 101, 119]⟩ : ByteArray)) n)).2).2).2).2).2 = ((((((moveM ((syncM ((appendM ((dropM d (fnew n))).2 (fnew n) (sealL l))).2 (fnew n))).2 (fnew n) n)).2).2).2).2).2)) :
 ∃ ps, runO Tryd.prog DF gSv 100 Tryd.f8 (dkBt d, svX n l) [.is true, .is false, .is false, .roll, .is false, .is false, .is false, .is true, .is false] (eV e) (dkBt (moveM (syncM (appendM (dropM d (fnew n)).2 (fnew n) (sealL l)).2 (fnew n)).2 (fnew n) n).2) = some ps ∧ AllQ ps := ⟨_, by kernel_rfl, qc h1 (qc h2 (qc h3 (qc h4 (qc h5 (qc (show ((0 : Int) ≤ (0 : Int)) from by decide) (qc h6 (qc (Eq.refl ((n ++ (⟨#[45, 110, 101, 119]⟩ : ByteArray)))) (qc (Eq.refl ((d).1)) (qc (Eq.refl (((d).2).1)) (qc (Eq.refl ((((d).2).2).1)) (qc (Eq.refl (((((d).2).2).2).1)) (qc (Eq.refl (((((d).2).2).2).2)) (qc h7 (qc h8 (qc h9 (qc (show ((0 : Int) ≤ (Go.IntKind.wrap Go.IntKind.i64 ((0 : Int) + (1 : Int)))) from by decide) (qc h10 (qc (Eq.refl l) (qc (Eq.refl ((n ++ (⟨#[45, 110, 101, 119]⟩ : ByteArray)))) (qc (Eq.refl ((((dropM d (n ++ (⟨#[45, 110, 101, 119]⟩ : ByteArray)))).2).1)) (qc (Eq.refl (((((dropM d (n ++ (⟨#[45, 110, 101, 119]⟩ : ByteArray)))).2).2).1)) (qc (Eq.refl ((((((dropM d (n ++ (⟨#[45, 110, 101, 119]⟩ : ByteArray)))).2).2).2).1)) (qc (Eq.refl (((((((dropM d (n ++ (⟨#[45, 110, 101, 119]⟩ : ByteArray)))).2).2).2).2).1)) (qc (Eq.refl (((((((dropM d (n ++ (⟨#[45, 110, 101, 119]⟩ : ByteArray)))).2).2).2).2).2)) (qc h11 (qc h8 (qc h12 (qc h13 (qc (show ((0 : Int) ≤ (Go.IntKind.wrap Go.IntKind.i64 ((Go.IntKind.wrap Go.IntKind.i64 ((0 : Int) + (1 : Int))) + (1 : Int)))) from by decide) (qc h14 (qc (Eq.refl ((n ++ (⟨#[45, 110, 101, 119]⟩ : ByteArray)))) (qc (Eq.refl ((((appendM ((dropM d (n ++ (⟨#[45, 110, 101, 119]⟩ : ByteArray)))).2 (n ++ (⟨#[45, 110, 101, 119]⟩ : ByteArray)) (sealL l))).2).1)) (qc (Eq.refl (((((appendM ((dropM d (n ++ (⟨#[45, 110, 101, 119]⟩ : ByteArray)))).2 (n ++ (⟨#[45, 110, 101, 119]⟩ : ByteArray)) (sealL l))).2).2).1)) (qc (Eq.refl ((((((appendM ((dropM d (n ++ (⟨#[45, 110, 101, 119]⟩ : ByteArray)))).2 (n ++ (⟨#[45, 110, 101, 119]⟩ : ByteArray)) (sealL l))).2).2).2).1)) (qc (Eq.refl (((((((appendM ((dropM d (n ++ (⟨#[45, 110, 101, 119]⟩ : ByteArray)))).2 (n ++ (⟨#[45, 110, 101, 119]⟩ : ByteArray)) (sealL l))).2).2).2).2).1)) (qc (Eq.refl (((((((appendM ((dropM d (n ++ (⟨#[45, 110, 101, 119]⟩ : ByteArray)))).2 (n ++ (⟨#[45, 110, 101, 119]⟩ : ByteArray)) (sealL l))).2).2).2).2).2)) (qc h15 (qc h8 (qc h16 (qc (show ((0 : Int) ≤ (Go.IntKind.wrap Go.IntKind.i64 ((Go.IntKind.wrap Go.IntKind.i64 ((Go.IntKind.wrap Go.IntKind.i64 ((0 : Int) + (1 : Int))) + (1 : Int))) + (1 : Int)))) from by decide) (qc h17 (qc (Eq.refl ((n ++ (⟨#[45, 110, 101, 119]⟩ : ByteArray)))) (qc (Eq.refl n) (qc (Eq.refl ((((syncM ((appendM ((dropM d (n ++ (⟨#[45, 110, 101, 119]⟩ : ByteArray)))).2 (n ++ (⟨#[45, 110, 101, 119]⟩ : ByteArray)) (sealL l))).2 (n ++ (⟨#[45, 110, 101, 119]⟩ : ByteArray)))).2).1)) (qc (Eq.refl (((((syncM ((appendM ((dropM d (n ++ (⟨#[45, 110, 101, 119]⟩ : ByteArray)))).2 (n ++ (⟨#[45, 110, 101, 119]⟩ : ByteArray)) (sealL l))).2 (n ++ (⟨#[45, 110, 101, 119]⟩ : ByteArray)))).2).2).1)) (qc (Eq.refl ((((((syncM ((appendM ((dropM d (n ++ (⟨#[45, 110, 101, 119]⟩ : ByteArray)))).2 (n ++ (⟨#[45, 110, 101, 119]⟩ : ByteArray)) (sealL l))).2 (n ++ (⟨#[45, 110, 101, 119]⟩ : ByteArray)))).2).2).2).1)) (qc (Eq.refl (((((((syncM ((appendM ((dropM d (n ++ (⟨#[45, 110, 101, 119]⟩ : ByteArray)))).2 (n ++ (⟨#[45, 110, 101, 119]⟩ : ByteArray)) (sealL l))).2 (n ++ (⟨#[45, 110, 101, 119]⟩ : ByteArray)))).2).2).2).2).1)) (qc (Eq.refl (((((((syncM ((appendM ((dropM d (n ++ (⟨#[45, 110, 101, 119]⟩ : ByteArray)))).2 (n ++ (⟨#[45, 110, 101, 119]⟩ : ByteArray)) (sealL l))).2 (n ++ (⟨#[45, 110, 101, 119]⟩ : ByteArray)))).2).2).2).2).2)) (qc h18 (qc h8 (qc h2 (qc h19 (qc h20 (qc h21 (qc h22 (qc h23 (qc h24 (qc h25 (qc h26 (qn))))))))))))))))))))))))))))))))))))))))))))))))))))))))))))⟩
theorem sv_e4 (n : ByteArray) (l : List Int) (d : DkT) (e : Int)
 (h1 : ((rightB n) = true))
 (h2 : ((ByteArray.size n) ≤ (9223372036854775807 : Nat)))
 (h3 : ((decide ((((ByteArray.size n) : Nat) : Int) > (20 : Int))) = false))
 (h4 : ((decide ((((List.length l) : Nat) : Int) > (65536 : Int))) = false))
 (h5 : (((((ByteArray.size n) + (4 : Nat)) : Nat) : Int) ≤ (9223372036854775807 : Int)))
 (h6 : ((0 : Int) < (((4 : Nat) : Nat) : Int)))
 (h7 : (DkOK d))
 (h8 : ((ByteArray.size (n ++ (⟨#[45, 110, 101, 119]⟩ : ByteArray))) ≤ (9223372036854775807 : Nat)))
 (h9 : (((sv1E d (n ++ (⟨#[45, 110, 101, 119]⟩ : ByteArray))) != (0 : Int)) = false))
 (h10 : ((Go.IntKind.wrap Go.IntKind.i64 ((0 : Int) + (1 : Int))) < (((4 : Nat) : Nat) : Int)))
 (h11 : (DkOK ((dropM d (n ++ (⟨#[45, 110, 101, 119]⟩ : ByteArray)))).2))
 (h12 : ((List.length l) ≤ (65536 : Nat)))
 (h13 : ((((appendM ((dropM d (n ++ (⟨#[45, 110, 101, 119]⟩ : ByteArray)))).2 (n ++ (⟨#[45, 110, 101, 119]⟩ : ByteArray)) (sealL l))).1 != (0 : Int)) = false))
 (h14 : ((Go.IntKind.wrap Go.IntKind.i64 ((Go.IntKind.wrap Go.IntKind.i64 ((0 : Int) + (1 : Int))) + (1 : Int))) < (((4 : Nat) : Nat) : Int)))
 (h15 : (DkOK ((appendM ((dropM d (n ++ (⟨#[45, 110, 101, 119]⟩ : ByteArray)))).2 (n ++ (⟨#[45, 110, 101, 119]⟩ : ByteArray)) (sealL l))).2))
 (h16 : ((((syncM ((appendM ((dropM d (n ++ (⟨#[45, 110, 101, 119]⟩ : ByteArray)))).2 (n ++ (⟨#[45, 110, 101, 119]⟩ : ByteArray)) (sealL l))).2 (n ++ (⟨#[45, 110, 101, 119]⟩ : ByteArray)))).1 != (0 : Int)) = false))
 (h17 : ((Go.IntKind.wrap Go.IntKind.i64 ((Go.IntKind.wrap Go.IntKind.i64 ((Go.IntKind.wrap Go.IntKind.i64 ((0 : Int) + (1 : Int))) + (1 : Int))) + (1 : Int))) < (((4 : Nat) : Nat) : Int)))
 (h18 : (DkOK ((syncM ((appendM ((dropM d (n ++ (⟨#[45, 110, 101, 119]⟩ : ByteArray)))).2 (n ++ (⟨#[45, 110, 101, 119]⟩ : ByteArray)) (sealL l))).2 (n ++ (⟨#[45, 110, 101, 119]⟩ : ByteArray)))).2))
 (h19 : ((((moveM ((syncM ((appendM ((dropM d (n ++ (⟨#[45, 110, 101, 119]⟩ : ByteArray)))).2 (n ++ (⟨#[45, 110, 101, 119]⟩ : ByteArray)) (sealL l))).2 (n ++ (⟨#[45, 110, 101, 119]⟩ : ByteArray)))).2 (n ++ (⟨#[45, 110, 101, 119]⟩ : ByteArray)) n)).1 != (0 : Int)) = true))
 (h20 : ((((moveM ((syncM ((appendM ((dropM d (n ++ (⟨#[45, 110, 101, 119]⟩ : ByteArray)))).2 (n ++ (⟨#[45, 110, 101, 119]⟩ : ByteArray)) (sealL l))).2 (n ++ (⟨#[45, 110, 101, 119]⟩ : ByteArray)))).2 (n ++ (⟨#[45, 110, 101, 119]⟩ : ByteArray)) n)).1 != (2 : Int)) = true))
 (h21 : (DkOK ((moveM ((syncM ((appendM ((dropM d (n ++ (⟨#[45, 110, 101, 119]⟩ : ByteArray)))).2 (n ++ (⟨#[45, 110, 101, 119]⟩ : ByteArray)) (sealL l))).2 (n ++ (⟨#[45, 110, 101, 119]⟩ : ByteArray)))).2 (n ++ (⟨#[45, 110, 101, 119]⟩ : ByteArray)) n)).2))
 (h22 : (((moveM ((syncM ((appendM ((dropM d (n ++ (⟨#[45, 110, 101, 119]⟩ : ByteArray)))).2 (n ++ (⟨#[45, 110, 101, 119]⟩ : ByteArray)) (sealL l))).2 (n ++ (⟨#[45, 110, 101, 119]⟩ : ByteArray)))).2 (n ++ (⟨#[45, 110, 101, 119]⟩ : ByteArray)) n)).1 = e))
 (h23 : ((((dropM ((moveM ((syncM ((appendM ((dropM d (n ++ (⟨#[45, 110, 101, 119]⟩ : ByteArray)))).2 (n ++ (⟨#[45, 110, 101, 119]⟩ : ByteArray)) (sealL l))).2 (n ++ (⟨#[45, 110, 101, 119]⟩ : ByteArray)))).2 (n ++ (⟨#[45, 110, 101, 119]⟩ : ByteArray)) n)).2 (n ++ (⟨#[45, 110, 101, 119]⟩ : ByteArray)))).2).1 = (((dropM ((moveM ((syncM ((appendM ((dropM d (fnew n))).2 (fnew n) (sealL l))).2 (fnew n))).2 (fnew n) n)).2 (fnew n))).2).1))
 (h24 : (((((dropM ((moveM ((syncM ((appendM ((dropM d (n ++ (⟨#[45, 110, 101, 119]⟩ : ByteArray)))).2 (n ++ (⟨#[45, 110, 101, 119]⟩ : ByteArray)) (sealL l))).2 (n ++ (⟨#[45, 110, 101, 119]⟩ : ByteArray)))).2 (n ++ (⟨#[45, 110, 101, 119]⟩ : ByteArray)) n)).2 (n ++ (⟨#[45, 110, 101, 119]⟩ : ByteArray)))).2).2).1 = ((((dropM ((moveM ((syncM ((appendM ((dropM d (fnew n))).2 (fnew n) (sealL l))).2 (fnew n))).2 (fnew n) n)).2 (fnew n))).2).2).1))
 (h25 : ((((((dropM ((moveM ((syncM ((appendM ((dropM d (n ++ (⟨#[45, 110, 101, 119]⟩ : ByteArray)))).2 (n ++ (⟨#[45, 110, 101, 119]⟩ : ByteArray)) (sealL l))).2 (n ++ (⟨#[45, 110, 101, 119]⟩ : ByteArray)))).2 (n ++ (⟨#[45, 110, 101, 119]⟩ : ByteArray)) n)).2 (n ++ (⟨#[45, 110, 101, 119]⟩ : ByteArray)))).2).2).2).1 = (((((dropM ((moveM ((syncM ((appendM ((dropM d (fnew n))).2 (fnew n) (sealL l))).2 (fnew n))).2 (fnew n) n)).2 (fnew n))).2).2).2).1))
 (h26 : (((((((dropM ((moveM ((syncM ((appendM ((dropM d (n ++ (⟨#[45, 110, 101, 119]⟩ : ByteArray)))).2 (n ++ (⟨#[45, 110, 101, 119]⟩ : ByteArray)) (sealL l))).2 (n ++ (⟨#[45, 110, 101, 119]⟩ : ByteArray)))).2 (n ++ (⟨#[45, 110, 101, 119]⟩ : ByteArray)) n)).2 (n ++ (⟨#[45, 110, 101, 119]⟩ : ByteArray)))).2).2).2).2).1 = ((((((dropM ((moveM ((syncM ((appendM ((dropM d (fnew n))).2 (fnew n) (sealL l))).2 (fnew n))).2 (fnew n) n)).2 (fnew n))).2).2).2).2).1))
 (h27 : (((((((dropM ((moveM ((syncM ((appendM ((dropM d (n ++ (⟨#[45, 110, 101, 119]⟩ : ByteArray)))).2 (n ++ (⟨#[45, 110, 101, 119]⟩ : ByteArray)) (sealL l))).2 (n ++ (⟨#[45, 110, 101, 119]⟩ : ByteArray)))).2 (n ++ (⟨#[45, 110, 101, 119]⟩ : ByteArray)) n)).2 (n ++ (⟨#[45, 110, 101, 119]⟩ : ByteArray)))).2).2).2).2).2 = ((((((dropM ((moveM ((syncM ((appendM ((dropM d (fnew n))).2 (fnew n) (sealL l))).2 (fnew n))).2 (fnew n) n)).2 (fnew n))).2).2).2).2).2)) :
 ∃ ps, runO Tryd.prog DF gSv 100 Tryd.f8 (dkBt d, svX n l) [.is true, .is false, .is false, .roll, .is false, .is false, .is false, .is true, .is true] (eV e) (dkBt (dropM (moveM (syncM (appendM (dropM d (fnew n)).2 (fnew n) (sealL l)).2 (fnew n)).2 (fnew n) n).2 (fnew n)).2) = some ps ∧ AllQ ps := ⟨_, by kernel_rfl, qc h1 (qc h2 (qc h3 (qc h4 (qc h5 (qc (show ((0 : Int) ≤ (0 : Int)) from by decide) (qc h6 (qc (Eq.refl ((n ++ (⟨#[45, 110, 101, 119]⟩ : ByteArray)))) (qc (Eq.refl ((d).1)) (qc (Eq.refl (((d).2).1)) (qc (Eq.refl ((((d).2).2).1)) (qc (Eq.refl (((((d).2).2).2).1)) (qc (Eq.refl (((((d).2).2).2).2)) (qc h7 (qc h8 (qc h9 (qc (show ((0 : Int) ≤ (Go.IntKind.wrap Go.IntKind.i64 ((0 : Int) + (1 : Int)))) from by decide) (qc h10 (qc (Eq.refl l) (qc (Eq.refl ((n ++ (⟨#[45, 110, 101, 119]⟩ : ByteArray)))) (qc (Eq.refl ((((dropM d (n ++ (⟨#[45, 110, 101, 119]⟩ : ByteArray)))).2).1)) (qc (Eq.refl (((((dropM d (n ++ (⟨#[45, 110, 101, 119]⟩ : ByteArray)))).2).2).1)) (qc (Eq.refl ((((((dropM d (n ++ (⟨#[45, 110, 101, 119]⟩ : ByteArray)))).2).2).2).1)) (qc (Eq.refl (((((((dropM d (n ++ (⟨#[45, 110, 101, 119]⟩ : ByteArray)))).2).2).2).2).1)) (qc (Eq.refl (((((((dropM d (n ++ (⟨#[45, 110, 101, 119]⟩ : ByteArray)))).2).2).2).2).2)) (qc h11 (qc h8 (qc h12 (qc h13 (qc (show ((0 : Int) ≤ (Go.IntKind.wrap Go.IntKind.i64 ((Go.IntKind.wrap Go.IntKind.i64 ((0 : Int) + (1 : Int))) + (1 : Int)))) from by decide) (qc h14 (qc (Eq.refl ((n ++ (⟨#[45, 110, 101, 119]⟩ : ByteArray)))) (qc (Eq.refl ((((appendM ((dropM d (n ++ (⟨#[45, 110, 101, 119]⟩ : ByteArray)))).2 (n ++ (⟨#[45, 110, 101, 119]⟩ : ByteArray)) (sealL l))).2).1)) (qc (Eq.refl (((((appendM ((dropM d (n ++ (⟨#[45, 110, 101, 119]⟩ : ByteArray)))).2 (n ++ (⟨#[45, 110, 101, 119]⟩ : ByteArray)) (sealL l))).2).2).1)) (qc (Eq.refl ((((((appendM ((dropM d (n ++ (⟨#[45, 110, 101, 119]⟩ : ByteArray)))).2 (n ++ (⟨#[45, 110, 101, 119]⟩ : ByteArray)) (sealL l))).2).2).2).1)) (qc (Eq.refl (((((((appendM ((dropM d (n ++ (⟨#[45, 110, 101, 119]⟩ : ByteArray)))).2 (n ++ (⟨#[45, 110, 101, 119]⟩ : ByteArray)) (sealL l))).2).2).2).2).1)) (qc (Eq.refl (((((((appendM ((dropM d (n ++ (⟨#[45, 110, 101, 119]⟩ : ByteArray)))).2 (n ++ (⟨#[45, 110, 101, 119]⟩ : ByteArray)) (sealL l))).2).2).2).2).2)) (qc h15 (qc h8 (qc h16 (qc (show ((0 : Int) ≤ (Go.IntKind.wrap Go.IntKind.i64 ((Go.IntKind.wrap Go.IntKind.i64 ((Go.IntKind.wrap Go.IntKind.i64 ((0 : Int) + (1 : Int))) + (1 : Int))) + (1 : Int)))) from by decide) (qc h17 (qc (Eq.refl ((n ++ (⟨#[45, 110, 101, 119]⟩ : ByteArray)))) (qc (Eq.refl n) (qc (Eq.refl ((((syncM ((appendM ((dropM d (n ++ (⟨#[45, 110, 101, 119]⟩ : ByteArray)))).2 (n ++ (⟨#[45, 110, 101, 119]⟩ : ByteArray)) (sealL l))).2 (n ++ (⟨#[45, 110, 101, 119]⟩ : ByteArray)))).2).1)) (qc (Eq.refl (((((syncM ((appendM ((dropM d (n ++ (⟨#[45, 110, 101, 119]⟩ : ByteArray)))).2 (n ++ (⟨#[45, 110, 101, 119]⟩ : ByteArray)) (sealL l))).2 (n ++ (⟨#[45, 110, 101, 119]⟩ : ByteArray)))).2).2).1)) (qc (Eq.refl ((((((syncM ((appendM ((dropM d (n ++ (⟨#[45, 110, 101, 119]⟩ : ByteArray)))).2 (n ++ (⟨#[45, 110, 101, 119]⟩ : ByteArray)) (sealL l))).2 (n ++ (⟨#[45, 110, 101, 119]⟩ : ByteArray)))).2).2).2).1)) (qc (Eq.refl (((((((syncM ((appendM ((dropM d (n ++ (⟨#[45, 110, 101, 119]⟩ : ByteArray)))).2 (n ++ (⟨#[45, 110, 101, 119]⟩ : ByteArray)) (sealL l))).2 (n ++ (⟨#[45, 110, 101, 119]⟩ : ByteArray)))).2).2).2).2).1)) (qc (Eq.refl (((((((syncM ((appendM ((dropM d (n ++ (⟨#[45, 110, 101, 119]⟩ : ByteArray)))).2 (n ++ (⟨#[45, 110, 101, 119]⟩ : ByteArray)) (sealL l))).2 (n ++ (⟨#[45, 110, 101, 119]⟩ : ByteArray)))).2).2).2).2).2)) (qc h18 (qc h8 (qc h2 (qc h19 (qc h20 (qc (Eq.refl ((n ++ (⟨#[45, 110, 101, 119]⟩ : ByteArray)))) (qc (Eq.refl ((((moveM ((syncM ((appendM ((dropM d (n ++ (⟨#[45, 110, 101, 119]⟩ : ByteArray)))).2 (n ++ (⟨#[45, 110, 101, 119]⟩ : ByteArray)) (sealL l))).2 (n ++ (⟨#[45, 110, 101, 119]⟩ : ByteArray)))).2 (n ++ (⟨#[45, 110, 101, 119]⟩ : ByteArray)) n)).2).1)) (qc (Eq.refl (((((moveM ((syncM ((appendM ((dropM d (n ++ (⟨#[45, 110, 101, 119]⟩ : ByteArray)))).2 (n ++ (⟨#[45, 110, 101, 119]⟩ : ByteArray)) (sealL l))).2 (n ++ (⟨#[45, 110, 101, 119]⟩ : ByteArray)))).2 (n ++ (⟨#[45, 110, 101, 119]⟩ : ByteArray)) n)).2).2).1)) (qc (Eq.refl ((((((moveM ((syncM ((appendM ((dropM d (n ++ (⟨#[45, 110, 101, 119]⟩ : ByteArray)))).2 (n ++ (⟨#[45, 110, 101, 119]⟩ : ByteArray)) (sealL l))).2 (n ++ (⟨#[45, 110, 101, 119]⟩ : ByteArray)))).2 (n ++ (⟨#[45, 110, 101, 119]⟩ : ByteArray)) n)).2).2).2).1)) (qc (Eq.refl (((((((moveM ((syncM ((appendM ((dropM d (n ++ (⟨#[45, 110, 101, 119]⟩ : ByteArray)))).2 (n ++ (⟨#[45, 110, 101, 119]⟩ : ByteArray)) (sealL l))).2 (n ++ (⟨#[45, 110, 101, 119]⟩ : ByteArray)))).2 (n ++ (⟨#[45, 110, 101, 119]⟩ : ByteArray)) n)).2).2).2).2).1)) (qc (Eq.refl (((((((moveM ((syncM ((appendM ((dropM d (n ++ (⟨#[45, 110, 101, 119]⟩ : ByteArray)))).2 (n ++ (⟨#[45, 110, 101, 119]⟩ : ByteArray)) (sealL l))).2 (n ++ (⟨#[45, 110, 101, 119]⟩ : ByteArray)))).2 (n ++ (⟨#[45, 110, 101, 119]⟩ : ByteArray)) n)).2).2).2).2).2)) (qc h21 (qc h8 (qc h22 (qc h23 (qc h24 (qc h25 (qc h26 (qc h27 (qn))))))))))))))))))))))))))))))))))))))))))))))))))))))))))))))))))))⟩
theorem sv_ok (n : ByteArray) (l : List Int) (d : DkT) (e : Int)
 (h1 : ((rightB n) = true))
 (h2 : ((ByteArray.size n) ≤ (9223372036854775807 : Nat)))
 (h3 : ((decide ((((ByteArray.size n) : Nat) : Int) > (20 : Int))) = false))
 (h4 : ((decide ((((List.length l) : Nat) : Int) > (65536 : Int))) = false))
 (h5 : (((((ByteArray.size n) + (4 : Nat)) : Nat) : Int) ≤ (9223372036854775807 : Int)))
 (h6 : ((0 : Int) < (((4 : Nat) : Nat) : Int)))
 (h7 : (DkOK d))
 (h8 : ((ByteArray.size (n ++ (⟨#[45, 110, 101, 119]⟩ : ByteArray))) ≤ (9223372036854775807 : Nat)))
 (h9 : (((sv1E d (n ++ (⟨#[45, 110, 101, 119]⟩ : ByteArray))) != (0 : Int)) = false))
 (h10 : ((Go.IntKind.wrap Go.IntKind.i64 ((0 : Int) + (1 : Int))) < (((4 : Nat) : Nat) : Int)))
 (h11 : (DkOK ((dropM d (n ++ (⟨#[45, 110, 101, 119]⟩ : ByteArray)))).2))
 (h12 : ((List.length l) ≤ (65536 : Nat)))
 (h13 : ((((appendM ((dropM d (n ++ (⟨#[45, 110, 101, 119]⟩ : ByteArray)))).2 (n ++ (⟨#[45, 110, 101, 119]⟩ : ByteArray)) (sealL l))).1 != (0 : Int)) = false))
 (h14 : ((Go.IntKind.wrap Go.IntKind.i64 ((Go.IntKind.wrap Go.IntKind.i64 ((0 : Int) + (1 : Int))) + (1 : Int))) < (((4 : Nat) : Nat) : Int)))
 (h15 : (DkOK ((appendM ((dropM d (n ++ (⟨#[45, 110, 101, 119]⟩ : ByteArray)))).2 (n ++ (⟨#[45, 110, 101, 119]⟩ : ByteArray)) (sealL l))).2))
 (h16 : ((((syncM ((appendM ((dropM d (n ++ (⟨#[45, 110, 101, 119]⟩ : ByteArray)))).2 (n ++ (⟨#[45, 110, 101, 119]⟩ : ByteArray)) (sealL l))).2 (n ++ (⟨#[45, 110, 101, 119]⟩ : ByteArray)))).1 != (0 : Int)) = false))
 (h17 : ((Go.IntKind.wrap Go.IntKind.i64 ((Go.IntKind.wrap Go.IntKind.i64 ((Go.IntKind.wrap Go.IntKind.i64 ((0 : Int) + (1 : Int))) + (1 : Int))) + (1 : Int))) < (((4 : Nat) : Nat) : Int)))
 (h18 : (DkOK ((syncM ((appendM ((dropM d (n ++ (⟨#[45, 110, 101, 119]⟩ : ByteArray)))).2 (n ++ (⟨#[45, 110, 101, 119]⟩ : ByteArray)) (sealL l))).2 (n ++ (⟨#[45, 110, 101, 119]⟩ : ByteArray)))).2))
 (h19 : ((((moveM ((syncM ((appendM ((dropM d (n ++ (⟨#[45, 110, 101, 119]⟩ : ByteArray)))).2 (n ++ (⟨#[45, 110, 101, 119]⟩ : ByteArray)) (sealL l))).2 (n ++ (⟨#[45, 110, 101, 119]⟩ : ByteArray)))).2 (n ++ (⟨#[45, 110, 101, 119]⟩ : ByteArray)) n)).1 != (0 : Int)) = false))
 (h20 : ((0 : Int) = e))
 (h21 : ((((moveM ((syncM ((appendM ((dropM d (n ++ (⟨#[45, 110, 101, 119]⟩ : ByteArray)))).2 (n ++ (⟨#[45, 110, 101, 119]⟩ : ByteArray)) (sealL l))).2 (n ++ (⟨#[45, 110, 101, 119]⟩ : ByteArray)))).2 (n ++ (⟨#[45, 110, 101, 119]⟩ : ByteArray)) n)).2).1 = (((moveM ((syncM ((appendM ((dropM d (fnew n))).2 (fnew n) (sealL l))).2 (fnew n))).2 (fnew n) n)).2).1))
 (h22 : (((((moveM ((syncM ((appendM ((dropM d (n ++ (⟨#[45, 110, 101, 119]⟩ : ByteArray)))).2 (n ++ (⟨#[45, 110, 101, 119]⟩ : ByteArray)) (sealL l))).2 (n ++ (⟨#[45, 110, 101, 119]⟩ : ByteArray)))).2 (n ++ (⟨#[45, 110, 101, 119]⟩ : ByteArray)) n)).2).2).1 = ((((moveM ((syncM ((appendM ((dropM d (fnew n))).2 (fnew n) (sealL l))).2 (fnew n))).2 (fnew n) n)).2).2).1))
 (h23 : ((((((moveM ((syncM ((appendM ((dropM d (n ++ (⟨#[45, 110, 101, 119]⟩ : ByteArray)))).2 (n ++ (⟨#[45, 110, 101, 119]⟩ : ByteArray)) (sealL l))).2 (n ++ (⟨#[45, 110, 101, 119]⟩ : ByteArray)))).2 (n ++ (⟨#[45, 110, 101, 119]⟩ : ByteArray)) n)).2).2).2).1 = (((((moveM ((syncM ((appendM ((dropM d (fnew n))).2 (fnew n) (sealL l))).2 (fnew n))).2 (fnew n) n)).2).2).2).1))
 (h24 : (((((((moveM ((syncM ((appendM ((dropM d (n ++ (⟨#[45, 110, 101, 119]⟩ : ByteArray)))).2 (n ++ (⟨#[45, 110, 101, 119]⟩ : ByteArray)) (sealL l))).2 (n ++ (⟨#[45, 110, 101, 119]⟩ : ByteArray)))).2 (n ++ (⟨#[45, 110, 101, 119]⟩ : ByteArray)) n)).2).2).2).2).1 = ((((((moveM ((syncM ((appendM ((dropM d (fnew n))).2 (fnew n) (sealL l))).2 (fnew n))).2 (fnew n) n)).2).2).2).2).1))
 (h25 : (((((((moveM ((syncM ((appendM ((dropM d (n ++ (⟨#[45, 110, 101, 119]⟩ : ByteArray)))).2 (n ++ (⟨#[45, 110, 101, 119]⟩ : ByteArray)) (sealL l))).2 (n ++ (⟨#[45, 110, 101, 119]⟩ : ByteArray)))).2 (n ++ (⟨#[45, 110, 101, 119]⟩ : ByteArray)) n)).2).2).2).2).2 = ((((((moveM ((syncM ((appendM ((dropM d (fnew n))).2 (fnew n) (sealL l))).2 (fnew n))).2 (fnew n) n)).2).2).2).2).2)) :
 ∃ ps, runO Tryd.prog DF gSv 100 Tryd.f8 (dkBt d, svX n l) [.is true, .is false, .is false, .roll, .is false, .is false, .is false, .is false] (eV e) (dkBt (moveM (syncM (appendM (dropM d (fnew n)).2 (fnew n) (sealL l)).2 (fnew n)).2 (fnew n) n).2) = some ps ∧ AllQ ps := ⟨_, by kernel_rfl, qc h1 (qc h2 (qc h3 (qc h4 (qc h5 (qc (show ((0 : Int) ≤ (0 : Int)) from by decide) (qc h6 (qc (Eq.refl ((n ++ (⟨#[45, 110, 101, 119]⟩ : ByteArray)))) (qc (Eq.refl ((d).1)) (qc (Eq.refl (((d).2).1)) (qc (Eq.refl ((((d).2).2).1)) (qc (Eq.refl (((((d).2).2).2).1)) (qc (Eq.refl (((((d).2).2).2).2)) (qc h7 (qc h8 (qc h9 (qc (show ((0 : Int) ≤ (Go.IntKind.wrap Go.IntKind.i64 ((0 : Int) + (1 : Int)))) from by decide) (qc h10 (qc (Eq.refl l) (qc (Eq.refl ((n ++ (⟨#[45, 110, 101, 119]⟩ : ByteArray)))) (qc (Eq.refl ((((dropM d (n ++ (⟨#[45, 110, 101, 119]⟩ : ByteArray)))).2).1)) (qc (Eq.refl (((((dropM d (n ++ (⟨#[45, 110, 101, 119]⟩ : ByteArray)))).2).2).1)) (qc (Eq.refl ((((((dropM d (n ++ (⟨#[45, 110, 101, 119]⟩ : ByteArray)))).2).2).2).1)) (qc (Eq.refl (((((((dropM d (n ++ (⟨#[45, 110, 101, 119]⟩ : ByteArray)))).2).2).2).2).1)) (qc (Eq.refl (((((((dropM d (n ++ (⟨#[45, 110, 101, 119]⟩ : ByteArray)))).2).2).2).2).2)) (qc h11 (qc h8 (qc h12 (qc h13 (qc (show ((0 : Int) ≤ (Go.IntKind.wrap Go.IntKind.i64 ((Go.IntKind.wrap Go.IntKind.i64 ((0 : Int) + (1 : Int))) + (1 : Int)))) from by decide) (qc h14 (qc (Eq.refl ((n ++ (⟨#[45, 110, 101, 119]⟩ : ByteArray)))) (qc (Eq.refl ((((appendM ((dropM d (n ++ (⟨#[45, 110, 101, 119]⟩ : ByteArray)))).2 (n ++ (⟨#[45, 110, 101, 119]⟩ : ByteArray)) (sealL l))).2).1)) (qc (Eq.refl (((((appendM ((dropM d (n ++ (⟨#[45, 110, 101, 119]⟩ : ByteArray)))).2 (n ++ (⟨#[45, 110, 101, 119]⟩ : ByteArray)) (sealL l))).2).2).1)) (qc (Eq.refl ((((((appendM ((dropM d (n ++ (⟨#[45, 110, 101, 119]⟩ : ByteArray)))).2 (n ++ (⟨#[45, 110, 101, 119]⟩ : ByteArray)) (sealL l))).2).2).2).1)) (qc (Eq.refl (((((((appendM ((dropM d (n ++ (⟨#[45, 110, 101, 119]⟩ : ByteArray)))).2 (n ++ (⟨#[45, 110, 101, 119]⟩ : ByteArray)) (sealL l))).2).2).2).2).1)) (qc (Eq.refl (((((((appendM ((dropM d (n ++ (⟨#[45, 110, 101, 119]⟩ : ByteArray)))).2 (n ++ (⟨#[45, 110, 101, 119]⟩ : ByteArray)) (sealL l))).2).2).2).2).2)) (qc h15 (qc h8 (qc h16 (qc (show ((0 : Int) ≤ (Go.IntKind.wrap Go.IntKind.i64 ((Go.IntKind.wrap Go.IntKind.i64 ((Go.IntKind.wrap Go.IntKind.i64 ((0 : Int) + (1 : Int))) + (1 : Int))) + (1 : Int)))) from by decide) (qc h17 (qc (Eq.refl ((n ++ (⟨#[45, 110, 101, 119]⟩ : ByteArray)))) (qc (Eq.refl n) (qc (Eq.refl ((((syncM ((appendM ((dropM d (n ++ (⟨#[45, 110, 101, 119]⟩ : ByteArray)))).2 (n ++ (⟨#[45, 110, 101, 119]⟩ : ByteArray)) (sealL l))).2 (n ++ (⟨#[45, 110, 101, 119]⟩ : ByteArray)))).2).1)) (qc (Eq.refl (((((syncM ((appendM ((dropM d (n ++ (⟨#[45, 110, 101, 119]⟩ : ByteArray)))).2 (n ++ (⟨#[45, 110, 101, 119]⟩ : ByteArray)) (sealL l))).2 (n ++ (⟨#[45, 110, 101, 119]⟩ : ByteArray)))).2).2).1)) (qc (Eq.refl ((((((syncM ((appendM ((dropM d (n ++ (⟨#[45, 110, 101, 119]⟩ : ByteArray)))).2 (n ++ (⟨#[45, 110, 101, 119]⟩ : ByteArray)) (sealL l))).2 (n ++ (⟨#[45, 110, 101, 119]⟩ : ByteArray)))).2).2).2).1)) (qc (Eq.refl (((((((syncM ((appendM ((dropM d (n ++ (⟨#[45, 110, 101, 119]⟩ : ByteArray)))).2 (n ++ (⟨#[45, 110, 101, 119]⟩ : ByteArray)) (sealL l))).2 (n ++ (⟨#[45, 110, 101, 119]⟩ : ByteArray)))).2).2).2).2).1)) (qc (Eq.refl (((((((syncM ((appendM ((dropM d (n ++ (⟨#[45, 110, 101, 119]⟩ : ByteArray)))).2 (n ++ (⟨#[45, 110, 101, 119]⟩ : ByteArray)) (sealL l))).2 (n ++ (⟨#[45, 110, 101, 119]⟩ : ByteArray)))).2).2).2).2).2)) (qc h18 (qc h8 (qc h2 (qc h19 (qc h20 (qc h21 (qc h22 (qc h23 (qc h24 (qc h25 (qn)))))))))))))))))))))))))))))))))))))))))))))))))))))))))))⟩
end Go.Num
namespace Go.Num
open Go.Abs Go.Proofs Go.Shelf Go.RowKit
noncomputable def newQ := mkF DF Tryd.f7.ntmps (fun bs xs => match bs, xs with | [], [.one (.int .i64 _ n)] => some n | _, _ => none) (fun n => ([], [.one (.int .i64 false n)]))
  (fun n => some (.v (.one (.ref 0 0)), dkBt (clampR n, 0, 0, false, []), []))
theorem new_ok : OpOK Tryd.prog DF 7 newQ := by
  refine opOK_mk gam_nil mixed Tryd.func7 (enters_of Tryd.func7 (by kernel_rfl) rfl) ?_
  intro n r' bs' ps h hps
  simp only [Option.some.injEq, Prod.mk.injEq] at h
  obtain ⟨rfl, rfl, rfl⟩ := h
  exact ⟨_, _, ne_run n _ rfl⟩
theorem sortK_one (s : ByteArray) (o : Ob) : sortK [([Fd.s s], o)] = [[Fd.s s]] := by
  unfold sortK keyL
  rw [show ([([Fd.s s], o)] : List (Rec × Ob)).map (fun e => (recS e.1 0).data.toList) = [s.data.toList] from rfl, List.mergeSort_singleton]
  show [[Fd.s ⟨s.data.toList.toArray⟩]] = _
  rw [ba_back]
theorem okd_new (n : Int) : Okd (clampR n, 0, 0, false, []) :=
  ⟨fun e he => (List.not_mem_nil he).elim, List.nodup_nil, fun e he => (List.not_mem_nil he).elim, Nat.zero_le _, clampR_ok n, (clampR_ok n).1, Int.le_refl _, ⟨Int.le_refl _, (by decide : (0 : Int) ≤ 9223372036854775807)⟩⟩
def OkN (d : DkT) (n : Int) : Prop := Okd d ∧ d.2.1 ≤ n
theorem OkN.dk {d : DkT} {n : Int} (h : OkN d n) (hn : n ≤ 4611686018427387904) : DkOK d := ⟨h.1, by have := h.2; omega⟩
theorem OkN.nxt {d d' : DkT} {n : Int} (h : OkN d n) (hx : Nxt d d') : OkN d' (n + 1) := ⟨hx.1, by have := h.2; have := hx.2.1; omega⟩
def hd0 : DkT := (clampR 4, 0, 0, false, [])
end Go.Num
namespace Go.Num
open Go.Abs Go.Proofs Go.Shelf Go.RowKit
def one (s : ByteArray) (l : List Int) (n : Int) : List (Rec × Ob) := [([Fd.s s], fileOb l n)]
theorem err_one {dn : Bool} {s : ByteArray} {l : List Int} {n : Int} (hs : rightB s = true) : errF dn (one s l n) s = if dn = true then 2 else 0 := by
  unfold errF one
  simp [hs, hasE, getE]
theorem err_nil {s : ByteArray} (hs : rightB s = true) : errF false [] s = 41 := by
  unfold errF
  simp [hs, hasE, getE]
theorem ob_one (s : ByteArray) (l : List Int) (n : Int) : obE (one s l n) [Fd.s s] = fileOb l n := by simp [obE, one, getE]
theorem set_one (s : ByteArray) (l : List Int) (n : Int) (o : Ob) : setE (one s l n) [Fd.s s] o = [([Fd.s s], o)] := by simp [one, setE]
theorem safe_one (s : ByteArray) (l : List Int) (n : Int) : safeSum none (one s l n) = n := by
  unfold one
  rw [safeSum_cons, safeSum_nil]
  show n + 0 = n
  omega
theorem app_nil {ro st fu : Int} {s : ByteArray} {b : List Int} (hs : rightB s = true) (h : b.length ≤ 4194304) :
    appendM (ro, st, fu, false, []) s b = (if stV fu = true then 0 else 2, (ro, stSt fu st, stFu fu, stDn fu false, one s b 0)) := by
  have he : DkT.err (ro, st, fu, false, []) s = 41 := err_nil hs
  have hd : fD (ro, st, fu, false, []) s = [] := rfl
  have hn : fS (ro, st, fu, false, []) s = 0 := rfl
  unfold appendM
  rw [if_neg (by rw [he]; simp), if_neg (by show ¬ (_ ∧ 32 ≤ (0 : Nat)); omega), if_neg (by rw [hd]; simp; omega), hd, hn]
  rfl
theorem sync_one {ro st fu n : Int} {s : ByteArray} {l : List Int} (hs : rightB s = true) (h : (l.length : Int) ≤ ro) :
    syncM (ro, st, fu, false, one s l n) s = if stV fu = true then (0, (ro, stSt fu st, stFu fu, stDn fu false, one s l l.length)) else (2, (ro, stSt fu st, stFu fu, stDn fu false, one s l n)) := by
  have he : DkT.err (ro, st, fu, false, one s l n) s = 0 := err_one hs
  have hd : fD (ro, st, fu, false, one s l n) s = l := by show obD (obE (one s l n) [Fd.s s]) = l; rw [ob_one]; rfl
  have hn : fS (ro, st, fu, false, one s l n) s = n := by show obS (obE (one s l n) [Fd.s s]) = n; rw [ob_one]; rfl
  unfold syncM
  rw [if_neg (by rw [he]; simp), if_neg (by rw [hd, hn]; show ¬ (ro - safeSum none (one s l n) < _); rw [safe_one]; omega), hd]
  unfold stp
  simp only
  rw [set_one]
  rfl
theorem read_one {ro st fu n : Int} {s : ByteArray} {l : List Int} (hs : rightB s = true) : readM (ro, st, fu, false, one s l n) s = (0, l) := by
  have he : DkT.err (ro, st, fu, false, one s l n) s = 0 := err_one hs
  have hd : fD (ro, st, fu, false, one s l n) s = l := by show obD (obE (one s l n) [Fd.s s]) = l; rw [ob_one]; rfl
  unfold readM
  rw [if_neg (by rw [he]; simp), hd]
abbrev cX : ByteArray := ⟨#[120]⟩
theorem right_x : rightB cX = true := by kernel_rfl
end Go.Num
namespace Go.Num
open Go.Abs Go.Proofs Go.Shelf Go.RowKit
end Go.Num
namespace Go.Num
open Go.Abs Go.Proofs Go.Shelf Go.RowKit
end Go.Num
namespace Go.Num
open Go.Abs Go.Proofs Go.Shelf Go.RowKit
def svEnd (d : DkT) (f : ByteArray) (e : Int) : Int × DkT := (e, if e ≠ 2 then (dropM d f).2 else d)
def sv1M (d : DkT) (f : ByteArray) : DkT := (dropM d f).2
def sv2M (d : DkT) (f : ByteArray) (l : List Int) : Int × DkT := appendM (sv1M d f) f (sealL l)
def sv3M (d : DkT) (f : ByteArray) (l : List Int) : Int × DkT := syncM (sv2M d f l).2 f
def sv4M (d : DkT) (f n : ByteArray) (l : List Int) : Int × DkT := moveM (sv3M d f l).2 f n
def saveM (d : DkT) (n : ByteArray) (l : List Int) : Int × DkT :=
  if rightB n = false ∨ 20 < n.size then (40, d)
  else if 65536 < l.length then (18, d)
  else if sv1E d (fnew n) ≠ 0 then svEnd (sv1M d (fnew n)) (fnew n) (sv1E d (fnew n))
  else if (sv2M d (fnew n) l).1 ≠ 0 then svEnd (sv2M d (fnew n) l).2 (fnew n) (sv2M d (fnew n) l).1
  else if (sv3M d (fnew n) l).1 ≠ 0 then svEnd (sv3M d (fnew n) l).2 (fnew n) (sv3M d (fnew n) l).1
  else if (sv4M d (fnew n) n l).1 ≠ 0 then svEnd (sv4M d (fnew n) n l).2 (fnew n) (sv4M d (fnew n) n l).1
  else (0, (sv4M d (fnew n) n l).2)
theorem sv1_ok {d : DkT} {m : Int} (h : OkN d m) (f : ByteArray) : OkN (sv1M d f) (m + 1) := h.nxt (drop_nxt h.1 f)
theorem sv2_ok {d : DkT} {m : Int} (h : OkN d m) (f : ByteArray) (l : List Int) : OkN (sv2M d f l).2 (m + 2) := by
  have := (sv1_ok h f).nxt (append_nxt (sv1_ok h f).1 f (sealL l))
  rwa [Int.add_assoc] at this
theorem sv3_ok {d : DkT} {m : Int} (h : OkN d m) (f : ByteArray) (l : List Int) : OkN (sv3M d f l).2 (m + 3) := by
  have := (sv2_ok h f l).nxt (sync_nxt (sv2_ok h f l).1 f)
  rwa [Int.add_assoc] at this
theorem sv4_ok {d : DkT} {m : Int} (h : OkN d m) (f n : ByteArray) (l : List Int) : OkN (sv4M d f n l).2 (m + 4) := by
  have := (sv3_ok h f l).nxt (move_nxt (sv3_ok h f l).1 f n)
  rwa [Int.add_assoc] at this
theorem svEnd_ok {d : DkT} {m : Int} (h : OkN d m) (f : ByteArray) (e : Int) : OkN (svEnd d f e).2 (m + 1) := by
  unfold svEnd
  simp only
  split
  · exact h.nxt (drop_nxt h.1 f)
  · exact ⟨h.1, by have := h.2; omega⟩
theorem OkN.le {d : DkT} {m m' : Int} (h : OkN d m) (hm : m ≤ m') : OkN d m' := ⟨h.1, Int.le_trans h.2 hm⟩
theorem save_ok {d : DkT} {m : Int} (h : OkN d m) (n : ByteArray) (l : List Int) : OkN (saveM d n l).2 (m + 5) := by
  unfold saveM
  repeat' split
  · exact h.le (by omega)
  · exact h.le (by omega)
  · exact (svEnd_ok (sv1_ok h _) _ _).le (by omega)
  · exact (svEnd_ok (sv2_ok h _ l) _ _).le (by omega)
  · exact (svEnd_ok (sv3_ok h _ l) _ _).le (by omega)
  · exact (svEnd_ok (sv4_ok h _ _ l) _ _).le (by omega)
  · exact (sv4_ok h _ _ l).le (by omega)
def svRd (bs : List (BoxSt DF.τ)) (xs : List (A0 DF.τ)) : Option (DkT × ByteArray × List Int) :=
  match xs with
  | [.one (.ref 0 0), .one (.str n), .one (.pw .u8 l)] => (dkRd bs).map fun d => (d, n, l)
  | _ => none
noncomputable def saveQ := mkF DF Tryd.f8.ntmps svRd (fun t => (dkBt t.1, svX t.2.1 t.2.2)) (fun t => some (eV (saveM t.1 t.2.1 t.2.2).1, dkBt (saveM t.1 t.2.1 t.2.2).2, [OkN t.1 4611686018427387000, t.2.1.size ≤ 9223372036854775000]))
theorem fnew_size (n : ByteArray) : (fnew n).size = n.size + 4 := by
  unfold fnew
  rw [ByteArray.size_append]
  rfl
theorem saveQ_ok : OpOK Tryd.prog DF 8 saveQ := by
  refine opOK_mk gSv_ok mixed Tryd.func8 (enters_of Tryd.func8 (by kernel_rfl) rfl) ?_
  rintro ⟨d, n, l⟩ r' bs' ps h hps
  simp only [Option.some.injEq, Prod.mk.injEq] at h
  obtain ⟨rfl, rfl, rfl⟩ := h
  have h0 : OkN d 4611686018427387000 := hps (OkN _ _) (by simp)
  have hs : n.size ≤ 9223372036854775000 := hps (n.size ≤ _) (by simp)
  have hs' : n.size ≤ 9223372036854775807 := by omega
  have hf : (fnew n).size ≤ 9223372036854775807 := by rw [fnew_size]; omega
  have hf' : (((n.size + 4 : Nat) : Int)) ≤ 9223372036854775807 := by omega
  have w1 : IntKind.i64.wrap (0 + 1) < 4 := by decide
  have w2 : IntKind.i64.wrap (IntKind.i64.wrap (0 + 1) + 1) < 4 := by decide
  have w3 : IntKind.i64.wrap (IntKind.i64.wrap (IntKind.i64.wrap (0 + 1) + 1) + 1) < 4 := by decide
  have d0 : DkOK d := h0.dk (by decide)
  have d1 : DkOK (dropM d (fnew n)).2 := (sv1_ok h0 (fnew n)).dk (by decide)
  have d2 : DkOK (appendM (dropM d (fnew n)).2 (fnew n) (sealL l)).2 := (sv2_ok h0 (fnew n) l).dk (by decide)
  have d3 : DkOK (syncM (appendM (dropM d (fnew n)).2 (fnew n) (sealL l)).2 (fnew n)).2 := (sv3_ok h0 (fnew n) l).dk (by decide)
  have d4 : DkOK (moveM (syncM (appendM (dropM d (fnew n)).2 (fnew n) (sealL l)).2 (fnew n)).2 (fnew n) n).2 := (sv4_ok h0 (fnew n) n l).dk (by decide)
  unfold saveM
  by_cases c0 : rightB n = false ∨ 20 < n.size
  · rw [if_pos c0]
    by_cases c1 : rightB n = false
    · exact ⟨_, _, sv_name n l d _ c1 hs' rfl⟩
    · exact ⟨_, _, sv_long n l d _ (by simpa using c1) hs' (decide_eq_true (by rcases c0 with h | h; exact absurd h c1; omega)) rfl⟩
  rw [if_neg c0]
  have cr : rightB n = true := by
    cases h : rightB n
    · exact absurd (.inl h) c0
    · rfl
  have cl : decide (((n.size : Nat) : Int) > 20) = false := decide_eq_false (fun h => c0 (.inr (by omega)))
  by_cases c2 : 65536 < l.length
  · rw [if_pos c2]
    exact ⟨_, _, sv_big n l d _ cr hs' cl (decide_eq_true (by omega)) rfl⟩
  rw [if_neg c2]
  have hl : l.length ≤ 65536 := by omega
  have cb : decide ((l.length : Int) > 65536) = false := decide_eq_false (by omega)
  by_cases e1 : sv1E d (fnew n) ≠ 0
  · rw [if_pos e1]
    unfold svEnd
    simp only
    by_cases q : sv1E d (fnew n) ≠ 2
    · rw [if_pos q]
      exact ⟨_, _, sv_e1 n l d _ cr hs' cl cb hf' (by decide) d0 hf (bne_iff_ne.2 e1) (bne_iff_ne.2 q) d1 rfl rfl rfl rfl rfl rfl⟩
    · rw [if_neg q]
      exact ⟨_, _, sv_d1 n l d _ cr hs' cl cb hf' (by decide) d0 hf (bne_iff_ne.2 e1) (Bool.eq_false_iff.2 (fun h => q (bne_iff_ne.1 h))) rfl rfl rfl rfl rfl rfl⟩
  rw [if_neg e1]
  have e1' : (sv1E d (fnew n) != 0) = false := Bool.eq_false_iff.2 (fun h => e1 (bne_iff_ne.1 h))
  by_cases e2 : (sv2M d (fnew n) l).1 ≠ 0
  · rw [if_pos e2]
    unfold svEnd
    simp only
    by_cases q : (sv2M d (fnew n) l).1 ≠ 2
    · rw [if_pos q]
      exact ⟨_, _, sv_e2 n l d _ cr hs' cl cb hf' (by decide) d0 hf e1' w1 d1 hl (bne_iff_ne.2 e2) (bne_iff_ne.2 q) d2 rfl rfl rfl rfl rfl rfl⟩
    · rw [if_neg q]
      exact ⟨_, _, sv_d2 n l d _ cr hs' cl cb hf' (by decide) d0 hf e1' w1 d1 hl (bne_iff_ne.2 e2) (Bool.eq_false_iff.2 (fun h => q (bne_iff_ne.1 h))) rfl rfl rfl rfl rfl rfl⟩
  rw [if_neg e2]
  have e2' : ((sv2M d (fnew n) l).1 != 0) = false := Bool.eq_false_iff.2 (fun h => e2 (bne_iff_ne.1 h))
  by_cases e3 : (sv3M d (fnew n) l).1 ≠ 0
  · rw [if_pos e3]
    unfold svEnd
    simp only
    by_cases q : (sv3M d (fnew n) l).1 ≠ 2
    · rw [if_pos q]
      exact ⟨_, _, sv_e3 n l d _ cr hs' cl cb hf' (by decide) d0 hf e1' w1 d1 hl e2' w2 d2 (bne_iff_ne.2 e3) (bne_iff_ne.2 q) d3 rfl rfl rfl rfl rfl rfl⟩
    · rw [if_neg q]
      exact ⟨_, _, sv_d3 n l d _ cr hs' cl cb hf' (by decide) d0 hf e1' w1 d1 hl e2' w2 d2 (bne_iff_ne.2 e3) (Bool.eq_false_iff.2 (fun h => q (bne_iff_ne.1 h))) rfl rfl rfl rfl rfl rfl⟩
  rw [if_neg e3]
  have e3' : ((sv3M d (fnew n) l).1 != 0) = false := Bool.eq_false_iff.2 (fun h => e3 (bne_iff_ne.1 h))
  by_cases e4 : (sv4M d (fnew n) n l).1 ≠ 0
  · rw [if_pos e4]
    unfold svEnd
    simp only
    by_cases q : (sv4M d (fnew n) n l).1 ≠ 2
    · rw [if_pos q]
      exact ⟨_, _, sv_e4 n l d _ cr hs' cl cb hf' (by decide) d0 hf e1' w1 d1 hl e2' w2 d2 e3' w3 d3 (bne_iff_ne.2 e4) (bne_iff_ne.2 q) d4 rfl rfl rfl rfl rfl rfl⟩
    · rw [if_neg q]
      exact ⟨_, _, sv_d4 n l d _ cr hs' cl cb hf' (by decide) d0 hf e1' w1 d1 hl e2' w2 d2 e3' w3 d3 (bne_iff_ne.2 e4) (Bool.eq_false_iff.2 (fun h => q (bne_iff_ne.1 h))) rfl rfl rfl rfl rfl rfl⟩
  rw [if_neg e4]
  have e4' : ((sv4M d (fnew n) n l).1 != 0) = false := Bool.eq_false_iff.2 (fun h => e4 (bne_iff_ne.1 h))
  exact ⟨_, _, sv_ok n l d _ cr hs' cl cb hf' (by decide) d0 hf e1' w1 d1 hl e2' w2 d2 e3' w3 d3 e4' rfl rfl rfl rfl rfl rfl⟩
noncomputable def loadHR (bs : List (BoxSt DF.τ)) (xs : List (A0 DF.τ)) : Option (AV DF.τ × List (BoxSt DF.τ) × List Prop) :=
  match reRd bs xs with
  | some t => bif Nat.beq t.2.size 1 then loadNoR bs xs else loadOkR bs xs
  | none => none
theorem loadH_ok : OpOK Tryd.prog DF 12 (withNew loadHR) := by
  intro bs xs r bs' ps h
  unfold withNew loadHR at h
  cases hr : reRd bs xs with
  | none => rw [hr] at h; cases h
  | some t =>
    rw [hr] at h
    cases hc : Nat.beq t.2.size 1 with
    | true =>
      simp only [hc, cond_true] at h
      exact loadNo_ok bs xs r bs' ps h
    | false =>
      simp only [hc, cond_false] at h
      exact loadOk_ok bs xs r bs' ps h
end Go.Num
namespace Go.Num
open Go.Abs Go.Proofs Go.Shelf Go.RowKit
noncomputable def gFh : Gam DF := [(7, .op [false] newQ), (8, .op [true, false, true] saveQ), (12, .rd [true, false] loadHR), (17, .rd [true] listR), (21, .rd [true] freeR)]
theorem gFh_ok : GamOK Tryd.prog DF gFh := gam_op new_ok (gam_op saveQ_ok (gam_rd loadH_ok (gam_rd list_ok (gam_rd freeR_ok gam_nil))))
abbrev fh_run_x1  := ((saveM ((clampR (1000 : Int)), ((0 : Int), ((0 : Int), (false, ([] : List (Rec × Ob)))))) (⟨#[118, 111, 116, 101]⟩ : ByteArray) ([(97 : Int), (98 : Int)] : List Int)))
theorem fh_run
 (h1 : (OkN ((clampR (1000 : Int)), ((0 : Int), ((0 : Int), (false, ([] : List (Rec × Ob)))))) (4611686018427387000 : Int)))
 (h2 : (((fh_run_x1 ).1 != (0 : Int)) = false))
 (h3 : (Okd (fh_run_x1 ).2))
 (h4 : (loadB (fh_run_x1 ).2 (⟨#[118, 111, 116, 101]⟩ : ByteArray)))
 (h5 : (¬ (loadB (fh_run_x1 ).2 (⟨#[120]⟩ : ByteArray))))
 (h6 : ((decide ((ByteArray.mk (Array.mk [(UInt8.ofBitVec (BitVec.ofFin (Fin.mk ((97 : Nat) % ((2 : Nat) ^ (8 : Nat))) (by decide)))), (UInt8.ofBitVec (BitVec.ofFin (Fin.mk ((98 : Nat) % ((2 : Nat) ^ (8 : Nat))) (by decide))))])) = (⟨#[97, 98]⟩ : ByteArray))) = true))
 (h7 : ((((loadM (fh_run_x1 ).2 (⟨#[120]⟩ : ByteArray))).1 == (0 : Int)) = true))
 (h8 : (((((List.length (listM (fh_run_x1 ).2)) : Nat) : Int) == (1 : Int)) = true))
 (h9 : (FreeOK (Option.none) (((((fh_run_x1 ).2).2).2).2).2 ((fh_run_x1 ).2).1))
 (h10 : (((((fh_run_x1 ).2).1 - (safeSum (Option.none) (((((fh_run_x1 ).2).2).2).2).2)) == (966 : Int)) = true)) :
 ∃ ps, runF Tryd.prog DF gFh 100 Tryd.f6 [] [.is false, .is true, .is true, .is true, .is true, .is true, .is true, .is true, .is true] = some ((AV.v (A0.one (Part.bool true true))), ps) ∧ AllQ ps := ⟨_, by kernel_rfl, qc (Eq.refl ((1000 : Int))) (qc (show ((0 : Nat) < (2 : Nat)) from by decide) (qc (Eq.refl ((⟨#[118, 111, 116, 101]⟩ : ByteArray))) (qc (Eq.refl (([(97 : Int), (98 : Int)] : List Int))) (qc (Eq.refl ((clampR (1000 : Int)))) (qc (Eq.refl ((0 : Int))) (qc (Eq.refl ((0 : Int))) (qc (Eq.refl false) (qc (Eq.refl (([] : List (Rec × Ob)))) (qc h1 (qc (show ((4 : Nat) ≤ (9223372036854775000 : Nat)) from by decide) (qc h2 (qc (Eq.refl ((⟨#[118, 111, 116, 101]⟩ : ByteArray))) (qc (Eq.refl (((fh_run_x1 ).2).1)) (qc (Eq.refl ((((fh_run_x1 ).2).2).1)) (qc (Eq.refl (((((fh_run_x1 ).2).2).2).1)) (qc (Eq.refl ((((((fh_run_x1 ).2).2).2).2).1)) (qc (Eq.refl ((((((fh_run_x1 ).2).2).2).2).2)) (qc h3 (qc (show ((4 : Nat) ≤ (9223372036854775807 : Nat)) from by decide) (qc h4 (qc (Eq.refl ((⟨#[120]⟩ : ByteArray))) (qc (Eq.refl (((fh_run_x1 ).2).1)) (qc (Eq.refl ((((fh_run_x1 ).2).2).1)) (qc (Eq.refl (((((fh_run_x1 ).2).2).2).1)) (qc (Eq.refl ((((((fh_run_x1 ).2).2).2).2).1)) (qc (Eq.refl ((((((fh_run_x1 ).2).2).2).2).2)) (qc h3 (qc (show ((1 : Nat) ≤ (9223372036854775807 : Nat)) from by decide) (qc h5 (qc h6 (qc h7 (qc (Eq.refl (((fh_run_x1 ).2).1)) (qc (Eq.refl ((((fh_run_x1 ).2).2).1)) (qc (Eq.refl (((((fh_run_x1 ).2).2).2).1)) (qc (Eq.refl ((((((fh_run_x1 ).2).2).2).2).1)) (qc (Eq.refl ((((((fh_run_x1 ).2).2).2).2).2)) (qc h3 (qc h8 (qc h9 (qc h10 (qn)))))))))))))))))))))))))))))))))))))))))⟩
def headFD : FnD DF
  | [] => some (.v (.one (.bool true true)), [])
  | _ => none
theorem seal_len (l : List Int) : (sealL l).length = 32 + l.length := by
  unfold sealL
  rw [List.length_append, List.length_append, ofF_len]
  rfl
theorem seal_take (l : List Int) : (sealL l).take 32 = ofF [l] := by
  unfold sealL
  rw [List.take_left' (ofF_len _)]
theorem seal_drop (l : List Int) : (sealL l).drop 32 = l := by
  unfold sealL
  rw [List.drop_left' (ofF_len _), List.append_nil]
theorem seal_load {d : DkT} {s : ByteArray} {l : List Int} (h : readM d s = (0, sealL l)) : loadB d s ∧ loadM d s = (0, l) := by
  have h3 : ofF [(sealL l).drop 32] = (sealL l).take 32 := by rw [seal_drop, seal_take]
  refine ⟨⟨by rw [h], by rw [h, seal_len]; omega, by rw [h]; exact h3⟩, ?_⟩
  unfold loadM
  rw [h, if_neg (show ¬ (0 : Int) = 41 by decide), if_neg (show ¬ (0 : Int) ≠ 0 by decide), if_neg (by rw [seal_len]; omega), if_neg (fun h => h h3), seal_drop]
def NameOK (n : ByteArray) : Prop := rightB n = true ∧ n.size ≤ 20 ∧ rightB (fnew n) = true ∧ n ≠ fnew n
theorem drop_gone {d : DkT} {s : ByteArray} (h : d.err s = 41) : dropM d s = (41, d) := by
  unfold dropM
  rw [if_pos (by rw [h]; decide), h]
theorem sv1_gone {d : DkT} {f : ByteArray} (h : d.err f = 41) : sv1E d f = 0 ∧ sv1M d f = d := by
  unfold sv1E sv1M
  rw [drop_gone h]
  exact ⟨rfl, rfl⟩
theorem stV0 : stV 0 = true := rfl
theorem save_new {ro st : Int} {n : ByteArray} {l : List Int} (hn : NameOK n) (hl : l.length ≤ 65536) :
    saveM (ro, st, 0, false, []) n l = if ro < ((sealL l).length : Int) then (42, (ro, st + 2, 0, false, [])) else (0, (ro, st + 3, 0, false, one n (sealL l) (sealL l).length)) := by
  obtain ⟨h1, h2, h3, h4⟩ := hn
  have hlen := seal_len l
  have g := sv1_gone (d := (ro, st, 0, false, [])) (f := fnew n) (err_nil h3)
  have e2 : sv2M (ro, st, 0, false, []) (fnew n) l = (0, (ro, st + 1, 0, false, one (fnew n) (sealL l) 0)) := by
    unfold sv2M
    rw [g.2, app_nil h3 (by omega)]
    rfl
  unfold saveM
  rw [if_neg (by rw [h1]; rintro (h | h); cases h; omega), if_neg (by omega), if_neg (by rw [g.1]; decide), e2]
  simp only [ne_eq, not_true_eq_false, if_false]
  have e3 : sv3M (ro, st, 0, false, []) (fnew n) l = if ro < ((sealL l).length : Int) then (42, (ro, st + 1, 0, false, one (fnew n) (sealL l) 0)) else (0, (ro, st + 2, 0, false, one (fnew n) (sealL l) (sealL l).length)) := by
    unfold sv3M
    rw [e2]
    simp only
    by_cases c : ro < ((sealL l).length : Int)
    · rw [if_pos c]
      unfold syncM
      have he : DkT.err (ro, st + 1, 0, false, one (fnew n) (sealL l) 0) (fnew n) = 0 := err_one h3
      rw [if_neg (by rw [he]; decide)]
      refine if_pos ?_
      show ro - safeSum none (one (fnew n) (sealL l) 0) < _
      rw [safe_one]
      show ro - 0 < ((obD (obE (one (fnew n) (sealL l) 0) [Fd.s (fnew n)])).length : Int) - obS (obE (one (fnew n) (sealL l) 0) [Fd.s (fnew n)])
      rw [ob_one]
      show ro - 0 < ((sealL l).length : Int) - 0
      omega
    · rw [if_neg c, sync_one h3 (by omega)]
      rw [if_pos stV0]
      have : st + 1 + 1 = st + 2 := by omega
      show (_, (ro, st + 1 + 1, 0, false, _)) = _
      rw [this]
  by_cases c : ro < ((sealL l).length : Int)
  · rw [if_pos c] at e3
    rw [e3, if_pos c]
    simp only [if_true, if_false, show ((42 : Int) = 0) = False from by decide, not_false_eq_true]
    unfold svEnd
    rw [if_pos (by decide)]
    have hd : dropM (ro, st + 1, 0, false, one (fnew n) (sealL l) 0) (fnew n) = (0, (ro, st + 2, 0, false, [])) := by
      unfold dropM
      have he : DkT.err (ro, st + 1, 0, false, one (fnew n) (sealL l) 0) (fnew n) = 0 := err_one h3
      rw [if_neg (by rw [he]; decide)]
      rw [if_pos stV0]
      have : st + 1 + 1 = st + 2 := by omega
      show (_, (ro, st + 1 + 1, 0, false, delE (one (fnew n) (sealL l) 0) [Fd.s (fnew n)])) = _
      rw [this]
      simp [one, delE]
    rw [hd]
  · rw [if_neg c] at e3
    rw [e3, if_neg c]
    simp only [if_true, if_false, not_true_eq_false]
    have e4 : sv4M (ro, st, 0, false, []) (fnew n) n l = (0, (ro, st + 3, 0, false, one n (sealL l) (sealL l).length)) := by
      unfold sv4M moveM
      rw [e3]
      have he : DkT.err (ro, st + 2, 0, false, one (fnew n) (sealL l) (sealL l).length) (fnew n) = 0 := err_one h3
      simp only
      rw [if_neg (by rw [he]; decide), if_neg (by rw [h1]; decide), if_pos stV0]
      have : st + 2 + 1 = st + 3 := by omega
      show (_, (ro, st + 2 + 1, 0, false, setE (delE (one (fnew n) (sealL l) (sealL l).length) [Fd.s (fnew n)]) [Fd.s n] (fileOb (obD (obE (one (fnew n) (sealL l) (sealL l).length) [Fd.s (fnew n)])) (obS (obE (one (fnew n) (sealL l) (sealL l).length) [Fd.s (fnew n)]))))) = _
      rw [this, ob_one]
      simp [one, delE, setE, obD, obS, fileOb, recW, recI]
    rw [e4]
    simp
end Go.Num
namespace Go.Num
open Go.Abs Go.Proofs Go.Shelf Go.RowKit
end Go.Num
namespace Go.Num
open Go.Abs Go.Proofs Go.Shelf Go.RowKit
abbrev cVote : ByteArray := ⟨#[118, 111, 116, 101]⟩
theorem right_vote : NameOK cVote := ⟨by kernel_rfl, by decide, by kernel_rfl, by decide⟩
def fhD : DkT := (1000, 3, 0, false, one cVote (sealL [97, 98]) (sealL [97, 98]).length)
theorem fh_save : saveM (clampR 1000, 0, 0, false, []) cVote [97, 98] = (0, fhD) := by
  rw [show clampR 1000 = 1000 from by decide, save_new right_vote (by decide), if_neg (by rw [seal_len]; decide)]
  rfl
theorem headF_ok : FnOK Tryd.prog DF 6 headFD := by
  refine fnOK_of gFh_ok mixed Tryd.func6 (enters_of Tryd.func6 (by kernel_rfl) rfl) ?_
  intro xs r ps h hps
  unfold headFD at h
  split at h
  · cases h
    have o0 : OkN (clampR 1000, 0, 0, false, []) 0 := ⟨okd_new 1000, Int.le_refl _⟩
    have o1 := save_ok o0 cVote [97, 98]
    rw [fh_save] at o1
    have hr : readM fhD cVote = (0, sealL [97, 98]) := read_one right_vote.1
    have hl := seal_load hr
    have hx : readM fhD cX = (41, []) := by
      unfold readM
      have he : DkT.err fhD cX = 41 := by
        show errF false (one cVote _ _) cX = 41
        unfold errF
        rw [if_neg (by decide), if_pos right_x, if_neg]
        simp [one, hasE, getE]
      rw [he]
      rfl
    have hn : ¬ loadB fhD cX := fun h => by have := h.1; rw [hx] at this; cases this
    have hm : loadM fhD cX = (0, []) := by unfold loadM; rw [hx]; rfl
    have hlen : (listM fhD).length = 1 := by
      unfold listM
      rw [if_neg (by decide), sortK_len]
      rfl
    have hsf : safeSum none fhD.2.2.2.2 = 34 := by
      show safeSum none (one cVote (sealL [97, 98]) (sealL [97, 98]).length) = 34
      rw [safe_one, seal_len]
      rfl
    have hf : ∀ (P : Int × DkT → Prop), P (0, fhD) → P (saveM (clampR 1000, 0, 0, false, []) cVote [97, 98]) := fun P h => by rw [fh_save]; exact h
    obtain ⟨ps, p1, p2⟩ := fh_run (o0.le (by decide)) (hf (fun x => (x.1 != 0) = false) rfl) (hf (fun x => Okd x.2) o1.1) (hf (fun x => loadB x.2 cVote) hl.1) (hf (fun x => ¬ loadB x.2 cX) hn) (by decide)
      (hf (fun x => ((loadM x.2 cX).1 == 0) = true) (by rw [hm]; rfl)) (hf (fun x => (((listM x.2).length : Int) == 1) = true) (by rw [hlen]; rfl)) (hf (fun x => FreeOK none x.2.2.2.2.2 x.2.1) o1.1.freeN) (hf (fun x => (x.2.1 - safeSum none x.2.2.2.2.2 == 966) = true) (by simp only; rw [hsf]; rfl))
    exact ⟨_, 100, _, _, _, fun w vs h => h, p1, p2, fun E v hv => hv⟩
  · cases h
end Go.Num
namespace Go.Num
open Go.Abs Go.Proofs Go.Shelf Go.RowKit
end Go.Num
namespace Go.Num
open Go.Abs Go.Proofs Go.Shelf Go.RowKit
end Go.Num
namespace Go.Num
open Go.Abs Go.Proofs Go.Shelf Go.RowKit
noncomputable def gI1 : Gam DF := [(33, .op [true] namesQ), (34, .fn clD)]
def r1B (s : ByteArray) (b : Nat) (n : Int) : BoxSt DF.τ := .dyn 32 (.rec1 [.s s, .o b, .i .i64 n])
theorem im1_run (ro st fu : Int) (dn : Bool) (es : List (Rec × Ob)) (s : ByteArray) (l : List Int) (n : Int)
 (h1 : (Short es))
 (h2 : ((decide ((0 : Int) < (((List.length (sortK es)) : Nat) : Int))) = true))
 (h3 : ((0 : Int) < (((List.length (sortK es)) : Nat) : Int)))
 (h4 : ((0 : Nat) < (List.length (sortK es))))
 (h5 : (KeyT Tryd.prog (9 : TypeId) false [FK.str]))
 (h6 : ((keyOK [FK.str] [(Fd.s (recS (List.getD (sortK es) (0 : Nat) ([] : List (Abs.Fd))) (0 : Nat)))]) = true))
 (h7 : ((hasE es [(Fd.s (recS (List.getD (sortK es) (0 : Nat) ([] : List (Abs.Fd))) (0 : Nat)))]) = true))
 (h8 : ((List.length (obD (obE es [(Fd.s (recS (List.getD (sortK es) (0 : Nat) ([] : List (Abs.Fd))) (0 : Nat)))]))) ≤ (140737488355328 : Nat)))
 (h9 : ((decide ((Go.IntKind.wrap Go.IntKind.i64 ((0 : Int) + (1 : Int))) < (((List.length (sortK es)) : Nat) : Int))) = false))
 (h10 : ((obS (obE es [(Fd.s (recS (List.getD (sortK es) (0 : Nat) ([] : List (Abs.Fd))) (0 : Nat)))])) = (obS (Ob.node [(Fd.w (obD (obE es [(Fd.s (recS (List.getD (sortK es) (0 : Nat) ([] : List (Abs.Fd))) (0 : Nat)))]))), (Fd.i (obS (obE es [(Fd.s (recS (List.getD (sortK es) (0 : Nat) ([] : List (Abs.Fd))) (0 : Nat)))])))] ([] : List (List (Rec × Ob)))))))
 (h11 : ((obD (obE es [(Fd.s (recS (List.getD (sortK es) (0 : Nat) ([] : List (Abs.Fd))) (0 : Nat)))])) = (obD (Ob.node [(Fd.w (obD (obE es [(Fd.s (recS (List.getD (sortK es) (0 : Nat) ([] : List (Abs.Fd))) (0 : Nat)))]))), (Fd.i (obS (obE es [(Fd.s (recS (List.getD (sortK es) (0 : Nat) ([] : List (Abs.Fd))) (0 : Nat)))])))] ([] : List (List (Rec × Ob)))))))
 (h12 : ((setE es [(Fd.s (recS (List.getD (sortK es) (0 : Nat) ([] : List (Abs.Fd))) (0 : Nat)))] (Ob.node [(Fd.w (obD (obE es [(Fd.s (recS (List.getD (sortK es) (0 : Nat) ([] : List (Abs.Fd))) (0 : Nat)))]))), (Fd.i (obS (obE es [(Fd.s (recS (List.getD (sortK es) (0 : Nat) ([] : List (Abs.Fd))) (0 : Nat)))])))] ([] : List (List (Rec × Ob))))) = es))
 (h13 : ((recS (List.getD (sortK es) (0 : Nat) ([] : List (Abs.Fd))) (0 : Nat)) = s))
 (h14 : ((obS (obE es [(Fd.s (recS (List.getD (sortK es) (0 : Nat) ([] : List (Abs.Fd))) (0 : Nat)))])) = n))
 (h15 : ((obD (obE es [(Fd.s (recS (List.getD (sortK es) (0 : Nat) ([] : List (Abs.Fd))) (0 : Nat)))])) = l)) :
 ∃ ps, runO Tryd.prog DF gI1 100 Tryd.f10 (dkB ro st fu dn es, [.one (.ref 0 0)]) [.roll, .is true, .is false] (.v (.one (.own 2))) (dkB ro st fu dn es ++ [r1B s 3 n, dynB l]) = some ps ∧ AllQ ps := ⟨_, by kernel_rfl, qc h1 (qc h2 (qc (show ((0 : Int) ≤ (0 : Int)) from by decide) (qc h3 (qc h4 (qc h5 (qc h6 (qc h7 (qc h8 (qc (show ((48 : Nat) ≤ (140737488355328 : Nat)) from by decide) (qc h9 (qc h10 (qc h11 (qc (Eq.refl ro) (qc (Eq.refl st) (qc (Eq.refl fu) (qc (Eq.refl dn) (qc h12 (qc h13 (qc h14 (qc h15 (qn)))))))))))))))))))))⟩
def nm1 (d : DkT) : ByteArray := recS ((sortK d.2.2.2.2).getD 0 []) 0
noncomputable def image1R := mkF DF Tryd.f10.ntmps spRdE (fun d => (dkBt d, [.one (.ref 0 0)])) (fun d => some (.v (.one (.own 2)), [r1B (nm1 d) 3 (obS (obE d.2.2.2.2 [Fd.s (nm1 d)])), dynB (obD (obE d.2.2.2.2 [Fd.s (nm1 d)]))], [Okd d, (sortK d.2.2.2.2).length = 1]))
theorem gI1_ok : GamOK Tryd.prog DF gI1 := gam_op names_ok (gam_cons clone_ok gam_nil)
theorem image1_ok : OpOK Tryd.prog DF 10 (withNew image1R) := by
  refine opOK_mkR mixed Tryd.func10 (enters_of Tryd.func10 (by kernel_rfl) rfl) (fun _ _ _ => spRdE_is) ?_
  rintro ⟨ro, st, fu, dn, es⟩ r' ns ps h hps
  simp only [Option.some.injEq, Prod.mk.injEq] at h
  obtain ⟨rfl, rfl, rfl⟩ := h
  have hd : Okd (ro, st, fu, dn, es) := hps (Okd _) (by simp)
  have hl : (sortK es).length = 1 := hps (_ = 1) (by simp)
  obtain ⟨s, hs1, hs2⟩ := sortK_at hd.keys1 (k := 0) (by simp only; rw [← sortK_len]; omega)
  have hs2' : hasE es [Fd.s s] = true := hs2
  have hs1' : (sortK es).getD 0 [] = [Fd.s s] := hs1
  have hb := hd.back hs2
  have ho := hd.ob [Fd.s s]
  simp only at hb ho
  have hr : recS ((sortK es).getD 0 []) 0 = s := by rw [hs1']; rfl
  exact ⟨_, _, _, gI1_ok, im1_run ro st fu dn es _ _ _ hd.short (decide_eq_true (by omega)) (by omega) (by omega) keyT_str rfl (by rw [hr]; exact hs2') (by rw [hr]; exact ho.2.2) (decide_eq_false (by rw [hl]; decide)) rfl rfl (by rw [hr]; exact hb) rfl rfl rfl⟩
def dkBn (o : Nat) (d : DkT) : List (BoxSt DF.τ) := [.fixed 52 [.int .i64 false d.1, .mapr o, .int .i64 false d.2.1, .int .i64 false d.2.2.1, .bool false d.2.2.2.1], .fam 0 d.2.2.2.2 none]
theorem mo1_run (ro ro' : Int) (s : ByteArray) (l : List Int) (n : Int) (es : List (Rec × Ob))
 (h1 : ((rightB s) = true))
 (h2 : ((ByteArray.size s) ≤ (9223372036854775807 : Nat)))
 (h3 : (KeyT Tryd.prog (9 : TypeId) false [FK.str]))
 (h4 : ((keyOK [FK.str] [(Fd.s s)]) = true))
 (h5 : ((hasE ([] : List (Rec × Ob)) [(Fd.s s)]) = false))
 (h6 : ((decide (n < (0 : Int))) = false))
 (h7 : ((decide (n > (((List.length l) : Nat) : Int))) = false))
 (h8 : ((List.length l) ≤ (140737488355328 : Nat)))
 (h9 : (FreeOK (Option.some ([(Fd.s s)], n)) (setE ([] : List (Rec × Ob)) [(Fd.s s)] (fileOb l n)) (if ((4194304 : Int) < (if ((0 : Int) > ro) then (0 : Int) else ro)) then (4194304 : Int) else (if ((0 : Int) > ro) then (0 : Int) else ro))))
 (h10 : ((decide (((if ((4194304 : Int) < (if ((0 : Int) > ro) then (0 : Int) else ro)) then (4194304 : Int) else (if ((0 : Int) > ro) then (0 : Int) else ro)) - (safeSum (Option.some ([(Fd.s s)], n)) (setE ([] : List (Rec × Ob)) [(Fd.s s)] (fileOb l n)))) < (0 : Int))) = false))
 (h11 : (n = (obD.match_1 (fun x => Int) (fileOb l n) (fun r cs => recI r 1))))
 (h12 : (l = (obD.match_1 (fun x => List Int) (fileOb l n) (fun r cs => recW r 0))))
 (h13 : ((if ((4194304 : Int) < (if ((0 : Int) > ro) then (0 : Int) else ro)) then (4194304 : Int) else (if ((0 : Int) > ro) then (0 : Int) else ro)) = ro'))
 (h14 : ((setE (setE ([] : List (Rec × Ob)) [(Fd.s s)] (fileOb l n)) [(Fd.s s)] (fileOb l n)) = es)) :
 ∃ ps, runO Tryd.prog DF gM 100 Tryd.f11 ([r1B s 1 n, dynB l], [.one (.int .i64 false ro), .one (.own 0)]) [.roll, .is true, .is false, .is false, .is false] (.tup [.one (.ref 2 0), .one (.int .i64 true 0)]) ([r1B s 1 n, dynB l] ++ dkBn 3 (ro', 0, 0, false, es)) = some ps ∧ AllQ ps := ⟨_, by kernel_rfl, qc (Eq.refl ro) (qc (Eq.refl ((0 : Int))) (qc h1 (qc h2 (qc h3 (qc h4 (qc h5 (qc h6 (qc h7 (qc h8 (qc h3 (qc h4 (qc h9 (qc h10 (qc h11 (qc h12 (qc (Eq.refl s) (qc (Eq.refl n) (qc (Eq.refl l) (qc h13 (qc (Eq.refl ((0 : Int))) (qc (Eq.refl ((0 : Int))) (qc (Eq.refl false) (qc h14 (qn))))))))))))))))))))))))⟩
def mo1Rd (bs : List (BoxSt DF.τ)) (xs : List (A0 DF.τ)) : Option (Int × ByteArray × List Int × Int) :=
  match bs, xs with
  | [.dyn _ (.rec1 [.s s, .o 1, .i .i64 n]), .dyn _ (.ints .u8 l)], [.one (.int .i64 _ ro), .one (.own 0)] => some (ro, s, l, n)
  | _, _ => none
noncomputable def mount1Q := mkF DF Tryd.f11.ntmps mo1Rd (fun t => ([r1B t.2.1 1 t.2.2.2, dynB t.2.2.1], [.one (.int .i64 false t.1), .one (.own 0)]))
  (fun t => some (.tup [.one (.ref 2 0), .one (.int .i64 true 0)], [r1B t.2.1 1 t.2.2.2, dynB t.2.2.1] ++ dkBn 3 (clampR t.1, 0, 0, false, one t.2.1 t.2.2.1 t.2.2.2), [rightB t.2.1 = true, 0 ≤ t.2.2.2, t.2.2.2 ≤ (t.2.2.1.length : Int), t.2.2.2 ≤ clampR t.1, t.2.2.1.length ≤ 140737488355328]))
theorem mount1_ok : OpOK Tryd.prog DF 11 mount1Q := by
  refine opOK_mk gM_ok mixed Tryd.func11 (enters_of Tryd.func11 (by kernel_rfl) rfl) ?_
  rintro ⟨ro, s, l, n⟩ r' bs' ps h hps
  simp only [Option.some.injEq, Prod.mk.injEq] at h
  obtain ⟨rfl, rfl, rfl⟩ := h
  have h1 : rightB s = true := hps (rightB s = true) (by simp)
  have h2 : 0 ≤ n := hps (0 ≤ n) (by simp)
  have h3 : n ≤ (l.length : Int) := hps (n ≤ (l.length : Int)) (by simp)
  have h4 : n ≤ clampR ro := hps (n ≤ clampR ro) (by simp)
  have h5 : l.length ≤ 140737488355328 := hps (l.length ≤ 140737488355328) (by simp)
  have hcl := clampR_ok ro
  have hss : safeSum (some ([Fd.s s], n)) (one s l n) = n := by simp [safeSum, safeOf, one]
  have hsz := rightB_size h1
  refine ⟨_, _, mo1_run ro (clampR ro) s l n (one s l n) h1 (by omega) keyT_str rfl rfl (decide_eq_false (by omega)) (decide_eq_false (by omega)) h5 ?_ (decide_eq_false ?_) rfl rfl rfl ?_⟩
  · show FreeOK (some ([Fd.s s], n)) (one s l n) (clampR ro)
    refine ⟨fun e he => ?_, by rw [hss]; omega, by omega, by omega⟩
    rw [List.mem_singleton.1 he]
    simp [safeOf, h2]
  · show ¬ (clampR ro - safeSum (some ([Fd.s s], n)) (one s l n) < 0)
    rw [hss]
    omega
  · simp [setE, one]
end Go.Num
